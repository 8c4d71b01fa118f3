import Derived.Test.YtpignhcdfioldaaChL3

set_option autoImplicit false
set_option maxRecDepth 100000
namespace Go.Proofs.Ytpignhcdfioldaa
open Go Go.Abs

theorem laws_iTimes (a b n : Int) (h0 : 0 ≤ a) (h1 : 0 ≤ n) (h2 : n ≤ 100000000) (h3 : a ≤ 100000000) (h4 : b ≤ 100000000): Pu C F.laws_iTimes [.agg [.int .i64 a, .int .i64 b], .int .i64 n] (.int .i64 (if b < 1 ∨ n % b ≠ 0 then -1 else a * (n / b))) := by
  refine pu_of Try.func22 rfl rfl rfl ?_
  have hb : 0 < b → 0 ≤ a * (n / b) ∧ a * (n / b) ≤ 10000000000000000 := fun hb => by
    have e1 : 0 ≤ n / b := Int.ediv_nonneg h1 (by omega)
    have e2 : n / b ≤ n := Int.ediv_le_self _ h1
    exact ⟨Int.mul_nonneg h0 e1, Int.le_trans (Int.mul_le_mul (c := 100000000) (d := 100000000) h3 (by omega) e1 (by omega)) (by decide)⟩
  try with_reducible refine CallB.mk ?_
  (repeat' ((conv => whnf); first
      | with_reducible refine RunM.go ?_
      | with_reducible refine AwM.go ?_
      | with_reducible refine DrawM.go ?_
      | refine NormH.go rfl ?_
      | with_reducible refine NormH.mk ?_
      | with_reducible refine Br.tt ?_
      | with_reducible refine Br.ff ?_
      | with_reducible refine Br.not ?_
      | with_reducible refine Br.and ?_
      | with_reducible refine Br.or ?_
      | with_reducible refine Br.isT (by assumption) ?_
      | with_reducible refine Br.isF (by assumption) ?_
      | with_reducible refine Br.eqSelf ?_
      | with_reducible refine Br.eqTF ?_
      | with_reducible refine Br.eqFT ?_
      | with_reducible refine Br.eqT ?_
      | with_reducible refine Br.eqF ?_
      | with_reducible refine Br.Teq ?_
      | with_reducible refine Br.Feq ?_
      | with_reducible refine Br.beqI ?_
      | with_reducible refine Br.bneI ?_
      | with_reducible refine Br.decT (by omega) ?_
      | with_reducible refine Br.decF (by omega) ?_
      | with_reducible refine Br.dec (fun h => ?_) (fun h => ?_)
      | with_reducible refine Br.mk (fun h => ?_) (fun h => ?_)
      | with_reducible refine Side.mk (by omega) ?_
      | with_reducible refine Side.mk (by assumption) ?_
      | with_reducible refine Side.mk rfl ?_
      | refine Side.mk (by exact rfl) ?_
      | with_reducible refine Alt.l (Side.mk (by omega) ?_)
      | with_reducible refine Alt.l (Side.mk (by refine ⟨rfl, ?_⟩; simp only [List.length_cons, List.length_nil]; omega) ?_)
      | refine Alt.l (Side.mk rfl ?_)
      | with_reducible refine Alt.r (Side.mk (by omega) ?_)
      | with_reducible refine Ovf.ok (by unfold inI64; omega) ?_
      | with_reducible refine Ovf.ok (inK64_u8 _) ?_
      | with_reducible refine Ovf.ok (by simp only [inK, decide_eq_true_eq]; omega) ?_
      | with_reducible apply DrawF.mk
      | with_reducible refine ForH.mk (fun _ => ?_)
      | with_reducible apply DrawR.mk
      | with_reducible apply DrawE.mk
      | with_reducible refine Stop.mk (AWP.drawM [] mixed (by kernel_rfl) ?_)
      | with_reducible exact Abs.Fin.mk ⟨rfl, rfl⟩
      | with_reducible refine Abs.Fin.mk ?_
      | refine Ovf.ok (by have := hb (by omega); unfold inI64; omega) ?_
      | with_reducible refine BackK.mk ?_
      | with_reducible refine Stop.b ?_
      | with_reducible refine CallA.b ?_))
  · rw [if_pos (.inl h)]; exact Tells.eq rfl rfl
  · rw [if_neg (by omega)]; exact Tells.eq rfl rfl
  · rw [if_pos (.inr h)]; exact Tells.eq rfl rfl

theorem slices_Index (xs : List Int) (y : Int) (hx : xs.length < 1000000) : Pr C F.slices_Index_int_int [.isl .int xs, .int .i64 y] fun v => ∃ i : Int, v = .int .i64 i ∧
    ((∃ n : Nat, i = n ∧ n < xs.length ∧ xs.getD n 0 = y ∧ ∀ j : Nat, j < n → xs.getD j 0 ≠ y) ∨ (i = -1 ∧ ∀ j : Nat, j < xs.length → xs.getD j 0 ≠ y)) := by
  refine pr_of Try.func75 rfl rfl rfl ?_
  try with_reducible refine CallB.mk ?_
  (repeat' ((conv => whnf); first
      | with_reducible refine RunM.go ?_
      | with_reducible refine AwM.go ?_
      | with_reducible refine DrawM.go ?_
      | refine NormH.go rfl ?_
      | with_reducible refine NormH.mk ?_
      | with_reducible refine Br.tt ?_
      | with_reducible refine Br.ff ?_
      | with_reducible refine Br.not ?_
      | with_reducible refine Br.and ?_
      | with_reducible refine Br.or ?_
      | with_reducible refine Br.isT (by assumption) ?_
      | with_reducible refine Br.isF (by assumption) ?_
      | with_reducible refine Br.eqSelf ?_
      | with_reducible refine Br.eqTF ?_
      | with_reducible refine Br.eqFT ?_
      | with_reducible refine Br.eqT ?_
      | with_reducible refine Br.eqF ?_
      | with_reducible refine Br.Teq ?_
      | with_reducible refine Br.Feq ?_
      | with_reducible refine Br.beqI ?_
      | with_reducible refine Br.bneI ?_
      | with_reducible refine Br.decT (by omega) ?_
      | with_reducible refine Br.decF (by omega) ?_
      | with_reducible refine Br.dec (fun h => ?_) (fun h => ?_)
      | with_reducible refine Br.mk (fun h => ?_) (fun h => ?_)
      | with_reducible refine Side.mk (by omega) ?_
      | with_reducible refine Side.mk (by assumption) ?_
      | with_reducible refine Side.mk rfl ?_
      | refine Side.mk (by exact rfl) ?_
      | with_reducible refine Alt.l (Side.mk (by omega) ?_)
      | with_reducible refine Alt.l (Side.mk (by refine ⟨rfl, ?_⟩; simp only [List.length_cons, List.length_nil]; omega) ?_)
      | refine Alt.l (Side.mk rfl ?_)
      | with_reducible refine Alt.r (Side.mk (by omega) ?_)
      | with_reducible refine Ovf.ok (by unfold inI64; omega) ?_
      | with_reducible refine Ovf.ok (inK64_u8 _) ?_
      | with_reducible refine Ovf.ok (by simp only [inK, decide_eq_true_eq]; omega) ?_
      | with_reducible apply DrawF.mk
      | with_reducible refine ForH.mk (fun _ => ?_)
      | with_reducible apply DrawR.mk
      | with_reducible apply DrawE.mk
      | with_reducible refine Stop.mk (AWP.drawM [] mixed (by kernel_rfl) ?_)
      | with_reducible exact Abs.Fin.mk ⟨rfl, rfl⟩
      | with_reducible refine Abs.Fin.mk ?_
      | with_reducible refine BackK.mk ?_
      | with_reducible refine Stop.b ?_
      | with_reducible refine CallA.b ?_))
  refine .mk <| AWP.loop (α := Nat) (fun i => i ≤ xs.length ∧ ∀ j : Nat, j < i → xs.getD j 0 ≠ y) (fun i => [(0, .isl .int xs), (1, .int .i64 y), (6, .isl .int xs), (7, .int .i64 xs.length), (8, .int .i64 i)]) (fun s => []) (fun i => xs.length - i) 0 ⟨Nat.zero_le _, fun j hj => by omega⟩ ⟨rfl, rfl, rfl, rfl, rfl, trivial⟩ rfl ?_
  rintro i ⟨hi, hj⟩ -
  refine AwM.out (C := C) ?_
  try with_reducible refine CallB.mk ?_
  (repeat' ((conv => whnf); first
      | with_reducible refine RunM.go ?_
      | with_reducible refine AwM.go ?_
      | with_reducible refine DrawM.go ?_
      | refine NormH.go rfl ?_
      | with_reducible refine NormH.mk ?_
      | with_reducible refine Br.tt ?_
      | with_reducible refine Br.ff ?_
      | with_reducible refine Br.not ?_
      | with_reducible refine Br.and ?_
      | with_reducible refine Br.or ?_
      | with_reducible refine Br.isT (by assumption) ?_
      | with_reducible refine Br.isF (by assumption) ?_
      | with_reducible refine Br.eqSelf ?_
      | with_reducible refine Br.eqTF ?_
      | with_reducible refine Br.eqFT ?_
      | with_reducible refine Br.eqT ?_
      | with_reducible refine Br.eqF ?_
      | with_reducible refine Br.Teq ?_
      | with_reducible refine Br.Feq ?_
      | with_reducible refine Br.beqI ?_
      | with_reducible refine Br.bneI ?_
      | with_reducible refine Br.decT (by omega) ?_
      | with_reducible refine Br.decF (by omega) ?_
      | with_reducible refine Br.dec (fun h => ?_) (fun h => ?_)
      | with_reducible refine Br.mk (fun h => ?_) (fun h => ?_)
      | with_reducible refine Side.mk (by omega) ?_
      | with_reducible refine Side.mk (by assumption) ?_
      | with_reducible refine Side.mk rfl ?_
      | refine Side.mk (by exact rfl) ?_
      | with_reducible refine Alt.l (Side.mk (by omega) ?_)
      | with_reducible refine Alt.l (Side.mk (by refine ⟨rfl, ?_⟩; simp only [List.length_cons, List.length_nil]; omega) ?_)
      | refine Alt.l (Side.mk rfl ?_)
      | with_reducible refine Alt.r (Side.mk (by omega) ?_)
      | with_reducible refine Ovf.ok (by unfold inI64; omega) ?_
      | with_reducible refine Ovf.ok (inK64_u8 _) ?_
      | with_reducible refine Ovf.ok (by simp only [inK, decide_eq_true_eq]; omega) ?_
      | with_reducible apply DrawF.mk
      | with_reducible refine ForH.mk (fun _ => ?_)
      | with_reducible apply DrawR.mk
      | with_reducible apply DrawE.mk
      | with_reducible refine Stop.mk (AWP.drawM [] mixed (by kernel_rfl) ?_)
      | with_reducible exact Abs.Fin.mk ⟨rfl, rfl⟩
      | with_reducible refine Abs.Fin.mk ?_
      | with_reducible refine BackK.mk ?_
      | with_reducible refine Stop.b ?_
      | with_reducible refine CallA.b ?_))
  · rename_i hl
    exact ⟨_, .closed _ rfl, _, rfl, .inl ⟨i, rfl, by omega, h.symm, hj⟩⟩
  · rename_i hl
    refine ⟨i + 1, ⟨by omega, fun j hj2 => ?_⟩, by show xs.length - (i + 1) < xs.length - i; omega, ⟨rfl, rfl, rfl, rfl, rfl, trivial⟩, rfl, Nat.le_refl _, rfl, rfl⟩
    rcases Nat.lt_or_ge j i with hlt | hge
    · exact hj j hlt
    · have : j = i := by omega
      subst this
      exact fun e => h e.symm
  · have : i = xs.length := by omega
    exact ⟨_, .closed _ rfl, _, rfl, .inr ⟨rfl, fun j hl => hj j (by omega)⟩⟩

theorem slices_Max (xs : List Int) (hx : xs.length < 1000000) (h0 : 0 < xs.length) : Pr C F.slices_Max_int_int [.isl .int xs] fun v => ∃ m : Int, v = .int .i64 m ∧ m ∈ xs ∧ ∀ x ∈ xs, x ≤ m := by
  refine pr_of Try.func76 rfl rfl rfl ?_
  have get : ∀ j, j < xs.length → xs.getD j 0 ∈ xs := fun j hj => by
    rw [List.getD_eq_getElem?_getD, List.getElem?_eq_getElem hj]
    exact List.getElem_mem _
  try with_reducible refine CallB.mk ?_
  (repeat' ((conv => whnf); first
      | with_reducible refine RunM.go ?_
      | with_reducible refine AwM.go ?_
      | with_reducible refine DrawM.go ?_
      | refine NormH.go rfl ?_
      | with_reducible refine NormH.mk ?_
      | with_reducible refine Br.tt ?_
      | with_reducible refine Br.ff ?_
      | with_reducible refine Br.not ?_
      | with_reducible refine Br.and ?_
      | with_reducible refine Br.or ?_
      | with_reducible refine Br.isT (by assumption) ?_
      | with_reducible refine Br.isF (by assumption) ?_
      | with_reducible refine Br.eqSelf ?_
      | with_reducible refine Br.eqTF ?_
      | with_reducible refine Br.eqFT ?_
      | with_reducible refine Br.eqT ?_
      | with_reducible refine Br.eqF ?_
      | with_reducible refine Br.Teq ?_
      | with_reducible refine Br.Feq ?_
      | with_reducible refine Br.beqI ?_
      | with_reducible refine Br.bneI ?_
      | with_reducible refine Br.decT (by omega) ?_
      | with_reducible refine Br.decF (by omega) ?_
      | with_reducible refine Br.dec (fun h => ?_) (fun h => ?_)
      | with_reducible refine Br.mk (fun h => ?_) (fun h => ?_)
      | with_reducible refine Side.mk (by omega) ?_
      | with_reducible refine Side.mk (by assumption) ?_
      | with_reducible refine Side.mk rfl ?_
      | refine Side.mk (by exact rfl) ?_
      | with_reducible refine Alt.l (Side.mk (by omega) ?_)
      | with_reducible refine Alt.l (Side.mk (by refine ⟨rfl, ?_⟩; simp only [List.length_cons, List.length_nil]; omega) ?_)
      | refine Alt.l (Side.mk rfl ?_)
      | with_reducible refine Alt.r (Side.mk (by omega) ?_)
      | with_reducible refine Ovf.ok (by unfold inI64; omega) ?_
      | with_reducible refine Ovf.ok (inK64_u8 _) ?_
      | with_reducible refine Ovf.ok (by simp only [inK, decide_eq_true_eq]; omega) ?_
      | with_reducible apply DrawF.mk
      | with_reducible refine ForH.mk (fun _ => ?_)
      | with_reducible apply DrawR.mk
      | with_reducible apply DrawE.mk
      | with_reducible refine Stop.mk (AWP.drawM [] mixed (by kernel_rfl) ?_)
      | with_reducible exact Abs.Fin.mk ⟨rfl, rfl⟩
      | with_reducible refine Abs.Fin.mk ?_
      | with_reducible refine BackK.mk ?_
      | with_reducible refine Stop.b ?_
      | with_reducible refine CallA.b ?_))
  refine .mk <| AWP.loop (α := Nat × Int) (fun s => s.1 ≤ xs.length ∧ s.2 ∈ xs ∧ ∀ j : Nat, j < s.1 → xs.getD j 0 ≤ s.2) (fun s => [(0, .isl .int xs), (3, .int .i64 s.2), (4, .int .i64 s.1)]) (fun s => []) (fun s => xs.length - s.1) (1, xs.getD 0 0)
    ⟨h0, get 0 h0, fun j hj => by have : j = 0 := by { dsimp only at hj; omega }
                                  subst this; exact Int.le_refl _⟩ ⟨rfl, rfl, rfl, trivial⟩ rfl ?_
  rintro ⟨i, m⟩ ⟨hi, hm, hj⟩ -
  dsimp only at hi hm hj ⊢
  refine AwM.out (C := C) ?_
  try with_reducible refine CallB.mk ?_
  (repeat' ((conv => whnf); first
      | with_reducible refine RunM.go ?_
      | with_reducible refine AwM.go ?_
      | with_reducible refine DrawM.go ?_
      | refine NormH.go rfl ?_
      | with_reducible refine NormH.mk ?_
      | with_reducible refine Br.tt ?_
      | with_reducible refine Br.ff ?_
      | with_reducible refine Br.not ?_
      | with_reducible refine Br.and ?_
      | with_reducible refine Br.or ?_
      | with_reducible refine Br.isT (by assumption) ?_
      | with_reducible refine Br.isF (by assumption) ?_
      | with_reducible refine Br.eqSelf ?_
      | with_reducible refine Br.eqTF ?_
      | with_reducible refine Br.eqFT ?_
      | with_reducible refine Br.eqT ?_
      | with_reducible refine Br.eqF ?_
      | with_reducible refine Br.Teq ?_
      | with_reducible refine Br.Feq ?_
      | with_reducible refine Br.beqI ?_
      | with_reducible refine Br.bneI ?_
      | with_reducible refine Br.decT (by omega) ?_
      | with_reducible refine Br.decF (by omega) ?_
      | with_reducible refine Br.dec (fun h => ?_) (fun h => ?_)
      | with_reducible refine Br.mk (fun h => ?_) (fun h => ?_)
      | with_reducible refine Side.mk (by omega) ?_
      | with_reducible refine Side.mk (by assumption) ?_
      | with_reducible refine Side.mk rfl ?_
      | refine Side.mk (by exact rfl) ?_
      | with_reducible refine Alt.l (Side.mk (by omega) ?_)
      | with_reducible refine Alt.l (Side.mk (by refine ⟨rfl, ?_⟩; simp only [List.length_cons, List.length_nil]; omega) ?_)
      | refine Alt.l (Side.mk rfl ?_)
      | with_reducible refine Alt.r (Side.mk (by omega) ?_)
      | with_reducible refine Ovf.ok (by unfold inI64; omega) ?_
      | with_reducible refine Ovf.ok (inK64_u8 _) ?_
      | with_reducible refine Ovf.ok (by simp only [inK, decide_eq_true_eq]; omega) ?_
      | with_reducible apply DrawF.mk
      | with_reducible refine ForH.mk (fun _ => ?_)
      | with_reducible apply DrawR.mk
      | with_reducible apply DrawE.mk
      | with_reducible refine Stop.mk (AWP.drawM [] mixed (by kernel_rfl) ?_)
      | with_reducible exact Abs.Fin.mk ⟨rfl, rfl⟩
      | with_reducible refine Abs.Fin.mk ?_
      | with_reducible refine BackK.mk ?_
      | with_reducible refine Stop.b ?_
      | with_reducible refine CallA.b ?_))
  · refine ⟨(i + 1, max m (xs.getD i 0)), ⟨by show i + 1 ≤ _; omega, ?_, fun j hj2 => ?_⟩, by show xs.length - (i + 1) < xs.length - i; omega, ⟨rfl, rfl, rfl, trivial⟩, rfl, Nat.le_refl _, rfl, rfl⟩
    · rcases Int.le_total m (xs.getD i 0) with h | h
      · show max m (xs.getD i 0) ∈ xs
        rw [Int.max_eq_right h]; exact get i (by omega)
      · show max m (xs.getD i 0) ∈ xs
        rw [Int.max_eq_left h]; exact hm
    · show xs.getD j 0 ≤ max m (xs.getD i 0)
      have hj2 : j < i + 1 := hj2
      rcases Nat.lt_or_ge j i with hlt | hge
      · have := hj j hlt; omega
      · have : j = i := by omega
        subst this
        omega
  · refine ⟨_, .closed _ rfl, _, rfl, hm, fun x hx => ?_⟩
    obtain ⟨j, hjl, rfl⟩ := List.mem_iff_getElem.1 hx
    have := hj j (by omega)
    rwa [List.getD_eq_getElem?_getD, List.getElem?_eq_getElem hjl] at this

theorem impl_isSum (s : Int) : Pu C F.impl_isSum [.int .i64 s] (.bool (decide (0 ≤ s ∧ s ≤ 1000))) := by
  refine pu_of Try.func80 rfl rfl rfl ?_
  try with_reducible refine CallB.mk ?_
  (repeat' ((conv => whnf); first
      | with_reducible refine RunM.go ?_
      | with_reducible refine AwM.go ?_
      | with_reducible refine DrawM.go ?_
      | refine NormH.go rfl ?_
      | with_reducible refine NormH.mk ?_
      | with_reducible refine Br.tt ?_
      | with_reducible refine Br.ff ?_
      | with_reducible refine Br.not ?_
      | with_reducible refine Br.and ?_
      | with_reducible refine Br.or ?_
      | with_reducible refine Br.isT (by assumption) ?_
      | with_reducible refine Br.isF (by assumption) ?_
      | with_reducible refine Br.eqSelf ?_
      | with_reducible refine Br.eqTF ?_
      | with_reducible refine Br.eqFT ?_
      | with_reducible refine Br.eqT ?_
      | with_reducible refine Br.eqF ?_
      | with_reducible refine Br.Teq ?_
      | with_reducible refine Br.Feq ?_
      | with_reducible refine Br.beqI ?_
      | with_reducible refine Br.bneI ?_
      | with_reducible refine Br.decT (by omega) ?_
      | with_reducible refine Br.decF (by omega) ?_
      | with_reducible refine Br.dec (fun h => ?_) (fun h => ?_)
      | with_reducible refine Br.mk (fun h => ?_) (fun h => ?_)
      | with_reducible refine Side.mk (by omega) ?_
      | with_reducible refine Side.mk (by assumption) ?_
      | with_reducible refine Side.mk rfl ?_
      | refine Side.mk (by exact rfl) ?_
      | with_reducible refine Alt.l (Side.mk (by omega) ?_)
      | with_reducible refine Alt.l (Side.mk (by refine ⟨rfl, ?_⟩; simp only [List.length_cons, List.length_nil]; omega) ?_)
      | refine Alt.l (Side.mk rfl ?_)
      | with_reducible refine Alt.r (Side.mk (by omega) ?_)
      | with_reducible refine Ovf.ok (by unfold inI64; omega) ?_
      | with_reducible refine Ovf.ok (inK64_u8 _) ?_
      | with_reducible refine Ovf.ok (by simp only [inK, decide_eq_true_eq]; omega) ?_
      | with_reducible apply DrawF.mk
      | with_reducible refine ForH.mk (fun _ => ?_)
      | with_reducible apply DrawR.mk
      | with_reducible apply DrawE.mk
      | with_reducible refine Stop.mk (AWP.drawM [] mixed (by kernel_rfl) ?_)
      | with_reducible exact Abs.Fin.mk ⟨rfl, rfl⟩
      | with_reducible refine Abs.Fin.mk ?_
      | refine CallA.pu (impl_within _ _ _) rfl rfl ?_
      | with_reducible refine BackK.mk ?_
      | with_reducible refine Stop.b ?_
      | with_reducible refine CallA.b ?_))
  exact Tells.eq rfl rfl

end Go.Proofs.Ytpignhcdfioldaa
