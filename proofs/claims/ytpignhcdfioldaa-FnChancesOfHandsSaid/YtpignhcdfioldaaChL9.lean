import Derived.Test.YtpignhcdfioldaaChL8

set_option autoImplicit false
set_option maxRecDepth 100000
namespace Go.Proofs.Ytpignhcdfioldaa
open Go Go.Abs

def bigB (code more : List UInt8) : Bool := decide ((1048576 : Int) < code.length ∨ (1048576 - code.length : Int) < more.length)

theorem laws_big (code more : List UInt8) (hc : code.length ≤ 9223372036854775807) : Pu C F.laws_big [.isl .u8 code, .isl .u8 more] (.bool (bigB code more)) := by
  refine pu_of Try.func6 rfl rfl rfl ?_
  try with_reducible refine CallB.mk ?_
  (repeat' ((conv => whnf); first
      | with_reducible refine RunM.go ?_
      | with_reducible refine AwM.go ?_
      | with_reducible refine DrawM.go ?_
      | ((with_reducible apply NormH.go); (focus exact rfl))
      | with_reducible refine NormH.mk ?_
      | with_reducible refine Br.tt ?_
      | with_reducible refine Br.ff ?_
      | with_reducible refine Br.not ?_
      | with_reducible refine Br.and ?_
      | with_reducible refine Br.or ?_
      | with_reducible refine Br.eqSelf ?_
      | with_reducible refine Br.eqTF ?_
      | with_reducible refine Br.eqFT ?_
      | with_reducible refine Br.eqT ?_
      | with_reducible refine Br.eqF ?_
      | with_reducible refine Br.Teq ?_
      | with_reducible refine Br.Feq ?_
      | with_reducible refine Br.beqI ?_
      | with_reducible refine Br.bneI ?_
      | with_reducible refine Br.decT (by omega) ?_
      | with_reducible refine Br.decF (by omega) ?_
      | with_reducible refine Br.isT (by assumption) ?_
      | with_reducible refine Br.isF (by assumption) ?_
      | with_reducible refine Br.dec (fun h => ?_) (fun h => ?_)
      | with_reducible refine Br.mk (fun h => ?_) (fun h => ?_)
      | ((with_reducible refine Side.mk ?cx ?_); case cx => first | omega | assumption | exact rfl)
      | ((with_reducible refine Alt.l (Side.mk ?cx ?_)); case cx => first | omega | (refine ⟨rfl, ?_⟩; simp only [List.length_cons, List.length_nil]; omega) | exact rfl)
      | ((with_reducible refine Alt.r (Side.mk ?cx ?_)); case cx => omega)
      | ((with_reducible refine Ovf.ok ?cx ?_); case cx => first | (unfold inI64; omega) | exact inK64_u8 _ | (simp only [inK, decide_eq_true_eq]; omega))
      | with_reducible apply DrawF.mk
      | with_reducible refine ForH.mk (fun _ => ?_)
      | with_reducible apply DrawR.mk
      | with_reducible apply DrawE.mk
      | with_reducible refine Stop.mk (AWP.drawM [] mixed (by kernel_rfl) ?_)
      | with_reducible exact Abs.Fin.mk ⟨rfl, rfl⟩
      | with_reducible refine Abs.Fin.mk ?_
      | with_reducible refine BackK.mk ?_
      | with_reducible refine Stop.b ?_
      | with_reducible refine CallA.b ?_))
  all_goals (refine Tells.eq (congrArg AV.bool ?_) rfl; unfold bigB; first | exact bd (by omega) | exact bf (by omega) | exact bt (by omega))

/-! The plain facts: few numbers of tiles, all of them looked at. -/

theorem draw_all {P : Int → Int → Prop} (h : ∀ n : Nat, n ≤ 6 → ∀ k : Nat, k ≤ 28 → (k : Int) ≤ tilesN n → P n k) {n k : Int} (hd : inDraw n k = true) : P n k := by
  obtain ⟨d1, d2, d3, d4⟩ := inDraw_iff.1 hd
  have := (tilesN_b d1 d2).2.2.2
  obtain ⟨n, rfl⟩ := Int.eq_ofNat_of_zero_le d1
  obtain ⟨k, rfl⟩ := Int.eq_ofNat_of_zero_le d3
  exact h n (by omega) k (by omega) d4

theorem tile_eq {n k : Int} (hd : inDraw n k = true) : rnum (cho (tilesN n - 1) (k - 1)) (cho (tilesN n) k) = rnum k.toNat (tilesN n).toNat ∧ rden (cho (tilesN n - 1) (k - 1)) (cho (tilesN n) k) = rden k.toNat (tilesN n).toNat :=
  draw_all (P := fun n k => rnum (cho (tilesN n - 1) (k - 1)) (cho (tilesN n) k) = rnum k.toNat (tilesN n).toNat ∧ rden (cho (tilesN n - 1) (k - 1)) (cho (tilesN n) k) = rden k.toNat (tilesN n).toNat) (by decide) hd
end Go.Proofs.Ytpignhcdfioldaa
