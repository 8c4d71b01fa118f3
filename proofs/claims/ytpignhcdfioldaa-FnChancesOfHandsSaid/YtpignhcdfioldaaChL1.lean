import Derived.Test.YtpignhcdfioldaaCtx

set_option autoImplicit false
set_option maxRecDepth 100000
namespace Go.Proofs.Ytpignhcdfioldaa
open Go Go.Abs

theorem mixed : C.P.follows .mixedOrders = true := rfl

theorem spec_l1In (n lo hi : Int) : Pu C F.spec_l1In [.int .i64 n, .int .i64 lo, .int .i64 hi] (.bool (decide (lo ≤ n ∧ n ≤ hi))) := by
  refine pu_of Try.func82 rfl rfl rfl ?_
  try with_reducible refine CallB.mk ?_
  (repeat' ((conv => whnf); first
      | with_reducible refine RunM.go ?_
      | with_reducible refine AwM.go ?_
      | with_reducible refine DrawM.go ?_
      | refine NormH.go rfl ?_
      | with_reducible refine NormH.mk ?_
      | with_reducible refine Br.tt ?_
      | with_reducible refine Br.ff ?_
      | with_reducible refine Br.not ?_
      | with_reducible refine Br.and ?_
      | with_reducible refine Br.or ?_
      | with_reducible refine Br.isT (by assumption) ?_
      | with_reducible refine Br.isF (by assumption) ?_
      | with_reducible refine Br.eqSelf ?_
      | with_reducible refine Br.eqTF ?_
      | with_reducible refine Br.eqFT ?_
      | with_reducible refine Br.eqT ?_
      | with_reducible refine Br.eqF ?_
      | with_reducible refine Br.Teq ?_
      | with_reducible refine Br.Feq ?_
      | with_reducible refine Br.beqI ?_
      | with_reducible refine Br.bneI ?_
      | with_reducible refine Br.decT (by omega) ?_
      | with_reducible refine Br.decF (by omega) ?_
      | with_reducible refine Br.dec (fun h => ?_) (fun h => ?_)
      | with_reducible refine Br.mk (fun h => ?_) (fun h => ?_)
      | with_reducible refine Side.mk (by omega) ?_
      | with_reducible refine Side.mk (by assumption) ?_
      | with_reducible refine Side.mk rfl ?_
      | refine Side.mk (by exact rfl) ?_
      | with_reducible refine Alt.l (Side.mk (by omega) ?_)
      | with_reducible refine Alt.l (Side.mk (by refine ⟨rfl, ?_⟩; simp only [List.length_cons, List.length_nil]; omega) ?_)
      | refine Alt.l (Side.mk rfl ?_)
      | with_reducible refine Alt.r (Side.mk (by omega) ?_)
      | with_reducible refine Ovf.ok (by unfold inI64; omega) ?_
      | with_reducible refine Ovf.ok (inK64_u8 _) ?_
      | with_reducible refine Ovf.ok (by simp only [inK, decide_eq_true_eq]; omega) ?_
      | with_reducible apply DrawF.mk
      | with_reducible refine ForH.mk (fun _ => ?_)
      | with_reducible apply DrawR.mk
      | with_reducible apply DrawE.mk
      | with_reducible refine Stop.mk (AWP.drawM [] mixed (by kernel_rfl) ?_)
      | with_reducible exact Abs.Fin.mk ⟨rfl, rfl⟩
      | with_reducible refine Abs.Fin.mk ?_
      | with_reducible refine BackK.mk ?_
      | with_reducible refine Stop.b ?_
      | with_reducible refine CallA.b ?_))
  all_goals (refine Tells.eq (congrArg AV.bool ?_) rfl; first | exact bd (by omega) | exact bf (by omega) | exact bt (by omega))
theorem impl_within (n lo hi : Int) : Pu C F.impl_within [.int .i64 n, .int .i64 lo, .int .i64 hi] (.bool (decide (lo ≤ n ∧ n ≤ hi))) := by
  refine pu_of Try.func78 rfl rfl rfl ?_
  try with_reducible refine CallB.mk ?_
  (repeat' ((conv => whnf); first
      | with_reducible refine RunM.go ?_
      | with_reducible refine AwM.go ?_
      | with_reducible refine DrawM.go ?_
      | refine NormH.go rfl ?_
      | with_reducible refine NormH.mk ?_
      | with_reducible refine Br.tt ?_
      | with_reducible refine Br.ff ?_
      | with_reducible refine Br.not ?_
      | with_reducible refine Br.and ?_
      | with_reducible refine Br.or ?_
      | with_reducible refine Br.isT (by assumption) ?_
      | with_reducible refine Br.isF (by assumption) ?_
      | with_reducible refine Br.eqSelf ?_
      | with_reducible refine Br.eqTF ?_
      | with_reducible refine Br.eqFT ?_
      | with_reducible refine Br.eqT ?_
      | with_reducible refine Br.eqF ?_
      | with_reducible refine Br.Teq ?_
      | with_reducible refine Br.Feq ?_
      | with_reducible refine Br.beqI ?_
      | with_reducible refine Br.bneI ?_
      | with_reducible refine Br.decT (by omega) ?_
      | with_reducible refine Br.decF (by omega) ?_
      | with_reducible refine Br.dec (fun h => ?_) (fun h => ?_)
      | with_reducible refine Br.mk (fun h => ?_) (fun h => ?_)
      | with_reducible refine Side.mk (by omega) ?_
      | with_reducible refine Side.mk (by assumption) ?_
      | with_reducible refine Side.mk rfl ?_
      | refine Side.mk (by exact rfl) ?_
      | with_reducible refine Alt.l (Side.mk (by omega) ?_)
      | with_reducible refine Alt.l (Side.mk (by refine ⟨rfl, ?_⟩; simp only [List.length_cons, List.length_nil]; omega) ?_)
      | refine Alt.l (Side.mk rfl ?_)
      | with_reducible refine Alt.r (Side.mk (by omega) ?_)
      | with_reducible refine Ovf.ok (by unfold inI64; omega) ?_
      | with_reducible refine Ovf.ok (inK64_u8 _) ?_
      | with_reducible refine Ovf.ok (by simp only [inK, decide_eq_true_eq]; omega) ?_
      | with_reducible apply DrawF.mk
      | with_reducible refine ForH.mk (fun _ => ?_)
      | with_reducible apply DrawR.mk
      | with_reducible apply DrawE.mk
      | with_reducible refine Stop.mk (AWP.drawM [] mixed (by kernel_rfl) ?_)
      | with_reducible exact Abs.Fin.mk ⟨rfl, rfl⟩
      | with_reducible refine Abs.Fin.mk ?_
      | with_reducible refine BackK.mk ?_
      | with_reducible refine Stop.b ?_
      | with_reducible refine CallA.b ?_))
  all_goals (refine Tells.eq (congrArg AV.bool ?_) rfl; first | exact bd (by omega) | exact bf (by omega) | exact bt (by omega))
theorem spec_l1Least (n m : Int) : Pu C F.spec_l1Least [.int .i64 n, .int .i64 m] (.int .i64 (min n m)) := by
  refine pu_of Try.func121 rfl rfl rfl ?_
  try with_reducible refine CallB.mk ?_
  (repeat' ((conv => whnf); first
      | with_reducible refine RunM.go ?_
      | with_reducible refine AwM.go ?_
      | with_reducible refine DrawM.go ?_
      | refine NormH.go rfl ?_
      | with_reducible refine NormH.mk ?_
      | with_reducible refine Br.tt ?_
      | with_reducible refine Br.ff ?_
      | with_reducible refine Br.not ?_
      | with_reducible refine Br.and ?_
      | with_reducible refine Br.or ?_
      | with_reducible refine Br.isT (by assumption) ?_
      | with_reducible refine Br.isF (by assumption) ?_
      | with_reducible refine Br.eqSelf ?_
      | with_reducible refine Br.eqTF ?_
      | with_reducible refine Br.eqFT ?_
      | with_reducible refine Br.eqT ?_
      | with_reducible refine Br.eqF ?_
      | with_reducible refine Br.Teq ?_
      | with_reducible refine Br.Feq ?_
      | with_reducible refine Br.beqI ?_
      | with_reducible refine Br.bneI ?_
      | with_reducible refine Br.decT (by omega) ?_
      | with_reducible refine Br.decF (by omega) ?_
      | with_reducible refine Br.dec (fun h => ?_) (fun h => ?_)
      | with_reducible refine Br.mk (fun h => ?_) (fun h => ?_)
      | with_reducible refine Side.mk (by omega) ?_
      | with_reducible refine Side.mk (by assumption) ?_
      | with_reducible refine Side.mk rfl ?_
      | refine Side.mk (by exact rfl) ?_
      | with_reducible refine Alt.l (Side.mk (by omega) ?_)
      | with_reducible refine Alt.l (Side.mk (by refine ⟨rfl, ?_⟩; simp only [List.length_cons, List.length_nil]; omega) ?_)
      | refine Alt.l (Side.mk rfl ?_)
      | with_reducible refine Alt.r (Side.mk (by omega) ?_)
      | with_reducible refine Ovf.ok (by unfold inI64; omega) ?_
      | with_reducible refine Ovf.ok (inK64_u8 _) ?_
      | with_reducible refine Ovf.ok (by simp only [inK, decide_eq_true_eq]; omega) ?_
      | with_reducible apply DrawF.mk
      | with_reducible refine ForH.mk (fun _ => ?_)
      | with_reducible apply DrawR.mk
      | with_reducible apply DrawE.mk
      | with_reducible refine Stop.mk (AWP.drawM [] mixed (by kernel_rfl) ?_)
      | with_reducible exact Abs.Fin.mk ⟨rfl, rfl⟩
      | with_reducible refine Abs.Fin.mk ?_
      | with_reducible refine BackK.mk ?_
      | with_reducible refine Stop.b ?_
      | with_reducible refine CallA.b ?_))
  all_goals (refine Tells.eq (congrArg (AV.int .i64) ?_) rfl; omega)

theorem impl_common (a b : Nat) (ha : a < 9000000000000000000) (hb : b < 9000000000000000000) : Pu C F.impl_common [.int .i64 a, .int .i64 b] (.int .i64 (Nat.gcd a b)) := by
  refine pu_of Try.func122 rfl rfl rfl ?_
  try with_reducible refine CallB.mk ?_
  (repeat' ((conv => whnf); first
      | with_reducible refine RunM.go ?_
      | with_reducible refine AwM.go ?_
      | with_reducible refine DrawM.go ?_
      | refine NormH.go rfl ?_
      | with_reducible refine NormH.mk ?_
      | with_reducible refine Br.tt ?_
      | with_reducible refine Br.ff ?_
      | with_reducible refine Br.not ?_
      | with_reducible refine Br.and ?_
      | with_reducible refine Br.or ?_
      | with_reducible refine Br.isT (by assumption) ?_
      | with_reducible refine Br.isF (by assumption) ?_
      | with_reducible refine Br.eqSelf ?_
      | with_reducible refine Br.eqTF ?_
      | with_reducible refine Br.eqFT ?_
      | with_reducible refine Br.eqT ?_
      | with_reducible refine Br.eqF ?_
      | with_reducible refine Br.Teq ?_
      | with_reducible refine Br.Feq ?_
      | with_reducible refine Br.beqI ?_
      | with_reducible refine Br.bneI ?_
      | with_reducible refine Br.decT (by omega) ?_
      | with_reducible refine Br.decF (by omega) ?_
      | with_reducible refine Br.dec (fun h => ?_) (fun h => ?_)
      | with_reducible refine Br.mk (fun h => ?_) (fun h => ?_)
      | with_reducible refine Side.mk (by omega) ?_
      | with_reducible refine Side.mk (by assumption) ?_
      | with_reducible refine Side.mk rfl ?_
      | refine Side.mk (by exact rfl) ?_
      | with_reducible refine Alt.l (Side.mk (by omega) ?_)
      | with_reducible refine Alt.l (Side.mk (by refine ⟨rfl, ?_⟩; simp only [List.length_cons, List.length_nil]; omega) ?_)
      | refine Alt.l (Side.mk rfl ?_)
      | with_reducible refine Alt.r (Side.mk (by omega) ?_)
      | with_reducible refine Ovf.ok (by unfold inI64; omega) ?_
      | with_reducible refine Ovf.ok (inK64_u8 _) ?_
      | with_reducible refine Ovf.ok (by simp only [inK, decide_eq_true_eq]; omega) ?_
      | with_reducible apply DrawF.mk
      | with_reducible refine ForH.mk (fun _ => ?_)
      | with_reducible apply DrawR.mk
      | with_reducible apply DrawE.mk
      | with_reducible refine Stop.mk (AWP.drawM [] mixed (by kernel_rfl) ?_)
      | with_reducible exact Abs.Fin.mk ⟨rfl, rfl⟩
      | with_reducible refine Abs.Fin.mk ?_
      | with_reducible refine BackK.mk ?_
      | with_reducible refine Stop.b ?_
      | with_reducible refine CallA.b ?_))
  refine .mk <| AWP.loop (α := Nat × Nat) (fun s => s.1 < 9000000000000000000 ∧ s.2 < 9000000000000000000 ∧ Nat.gcd s.1 s.2 = Nat.gcd a b) (fun s => [(0, .int .i64 s.1), (1, .int .i64 s.2)]) (fun s => []) (fun s => s.2) (a, b) ⟨ha, hb, rfl⟩ ?_ rfl ?_
  · exact ⟨rfl, rfl, trivial⟩
  rintro ⟨x, y⟩ ⟨h1, h2, h3⟩ -
  refine AwM.out (C := C) ?_
  try with_reducible refine CallB.mk ?_
  (repeat' ((conv => whnf); first
      | with_reducible refine RunM.go ?_
      | with_reducible refine AwM.go ?_
      | with_reducible refine DrawM.go ?_
      | refine NormH.go rfl ?_
      | with_reducible refine NormH.mk ?_
      | with_reducible refine Br.tt ?_
      | with_reducible refine Br.ff ?_
      | with_reducible refine Br.not ?_
      | with_reducible refine Br.and ?_
      | with_reducible refine Br.or ?_
      | with_reducible refine Br.isT (by assumption) ?_
      | with_reducible refine Br.isF (by assumption) ?_
      | with_reducible refine Br.eqSelf ?_
      | with_reducible refine Br.eqTF ?_
      | with_reducible refine Br.eqFT ?_
      | with_reducible refine Br.eqT ?_
      | with_reducible refine Br.eqF ?_
      | with_reducible refine Br.Teq ?_
      | with_reducible refine Br.Feq ?_
      | with_reducible refine Br.beqI ?_
      | with_reducible refine Br.bneI ?_
      | with_reducible refine Br.decT (by omega) ?_
      | with_reducible refine Br.decF (by omega) ?_
      | with_reducible refine Br.dec (fun h => ?_) (fun h => ?_)
      | with_reducible refine Br.mk (fun h => ?_) (fun h => ?_)
      | with_reducible refine Side.mk (by omega) ?_
      | with_reducible refine Side.mk (by assumption) ?_
      | with_reducible refine Side.mk rfl ?_
      | refine Side.mk (by exact rfl) ?_
      | with_reducible refine Alt.l (Side.mk (by omega) ?_)
      | with_reducible refine Alt.l (Side.mk (by refine ⟨rfl, ?_⟩; simp only [List.length_cons, List.length_nil]; omega) ?_)
      | refine Alt.l (Side.mk rfl ?_)
      | with_reducible refine Alt.r (Side.mk (by omega) ?_)
      | with_reducible refine Ovf.ok (by unfold inI64; omega) ?_
      | with_reducible refine Ovf.ok (inK64_u8 _) ?_
      | with_reducible refine Ovf.ok (by simp only [inK, decide_eq_true_eq]; omega) ?_
      | with_reducible apply DrawF.mk
      | with_reducible refine ForH.mk (fun _ => ?_)
      | with_reducible apply DrawR.mk
      | with_reducible apply DrawE.mk
      | with_reducible refine Stop.mk (AWP.drawM [] mixed (by kernel_rfl) ?_)
      | with_reducible exact Abs.Fin.mk ⟨rfl, rfl⟩
      | with_reducible refine Abs.Fin.mk ?_
      | with_reducible refine BackK.mk ?_
      | with_reducible refine Stop.b ?_
      | with_reducible refine CallA.b ?_))
  · have : y ≠ 0 := by intro e; subst e; simp at h
    have hm := Nat.mod_lt x (Nat.pos_of_ne_zero this)
    refine ⟨(y, x % y), ⟨h2, by dsimp only at *; omega, ?_⟩, hm, ⟨rfl, rfl, trivial⟩, rfl, Nat.le_refl _, rfl, rfl⟩
    dsimp only at *
    rw [← h3, Nat.gcd_comm x y, Nat.gcd_rec y x, Nat.gcd_comm]
  · refine Tells.eq (congrArg (AV.int .i64) ?_) rfl
    have : y = 0 := by dsimp only at h; omega
    subst this
    dsimp only at h3 ⊢
    rw [← h3, Nat.gcd_zero_right]

/-- A fraction. -/
def rnum (a b : Nat) : Nat := a / Nat.gcd a b
def rden (a b : Nat) : Nat := b / Nat.gcd a b

theorem impl_ratio (a b : Nat) (ha : a < 9000000000000000000) (hb : b < 9000000000000000000) (h0 : 0 < b) : Pu C F.impl_ratio [.int .i64 a, .int .i64 b] (.agg [.int .i64 (rnum a b), .int .i64 (rden a b)]) := by
  refine pu_of Try.func73 rfl rfl rfl ?_
  have hg : 0 < Nat.gcd a b := Nat.gcd_pos_of_pos_right _ h0
  try with_reducible refine CallB.mk ?_
  (repeat' ((conv => whnf); first
      | with_reducible refine RunM.go ?_
      | with_reducible refine AwM.go ?_
      | with_reducible refine DrawM.go ?_
      | refine NormH.go rfl ?_
      | with_reducible refine NormH.mk ?_
      | with_reducible refine Br.tt ?_
      | with_reducible refine Br.ff ?_
      | with_reducible refine Br.not ?_
      | with_reducible refine Br.and ?_
      | with_reducible refine Br.or ?_
      | with_reducible refine Br.isT (by assumption) ?_
      | with_reducible refine Br.isF (by assumption) ?_
      | with_reducible refine Br.eqSelf ?_
      | with_reducible refine Br.eqTF ?_
      | with_reducible refine Br.eqFT ?_
      | with_reducible refine Br.eqT ?_
      | with_reducible refine Br.eqF ?_
      | with_reducible refine Br.Teq ?_
      | with_reducible refine Br.Feq ?_
      | with_reducible refine Br.beqI ?_
      | with_reducible refine Br.bneI ?_
      | with_reducible refine Br.decT (by omega) ?_
      | with_reducible refine Br.decF (by omega) ?_
      | with_reducible refine Br.dec (fun h => ?_) (fun h => ?_)
      | with_reducible refine Br.mk (fun h => ?_) (fun h => ?_)
      | with_reducible refine Side.mk (by omega) ?_
      | with_reducible refine Side.mk (by assumption) ?_
      | with_reducible refine Side.mk rfl ?_
      | refine Side.mk (by exact rfl) ?_
      | with_reducible refine Alt.l (Side.mk (by omega) ?_)
      | with_reducible refine Alt.l (Side.mk (by refine ⟨rfl, ?_⟩; simp only [List.length_cons, List.length_nil]; omega) ?_)
      | refine Alt.l (Side.mk rfl ?_)
      | with_reducible refine Alt.r (Side.mk (by omega) ?_)
      | with_reducible refine Ovf.ok (by unfold inI64; omega) ?_
      | with_reducible refine Ovf.ok (inK64_u8 _) ?_
      | with_reducible refine Ovf.ok (by simp only [inK, decide_eq_true_eq]; omega) ?_
      | with_reducible apply DrawF.mk
      | with_reducible refine ForH.mk (fun _ => ?_)
      | with_reducible apply DrawR.mk
      | with_reducible apply DrawE.mk
      | with_reducible refine Stop.mk (AWP.drawM [] mixed (by kernel_rfl) ?_)
      | with_reducible exact Abs.Fin.mk ⟨rfl, rfl⟩
      | with_reducible refine Abs.Fin.mk ?_
      | refine CallA.pu (impl_common a b ha hb) rfl rfl ?_
      | with_reducible refine BackK.mk ?_
      | with_reducible refine Stop.b ?_
      | with_reducible refine CallA.b ?_))
  all_goals exact Tells.eq rfl rfl

theorem spec_dcRatio (a b : Nat) (ha : a < 9000000000000000000) (hb : b < 9000000000000000000) (h0 : 0 < b) : Pu C F.spec_dcRatio [.int .i64 a, .int .i64 b] (.agg [.int .i64 (rnum a b), .int .i64 (rden a b)]) := by
  refine pu_of Try.func72 rfl rfl rfl ?_
  have hg : 0 < Nat.gcd a b := Nat.gcd_pos_of_pos_right _ h0
  try with_reducible refine CallB.mk ?_
  (repeat' ((conv => whnf); first
      | with_reducible refine RunM.go ?_
      | with_reducible refine AwM.go ?_
      | with_reducible refine DrawM.go ?_
      | refine NormH.go rfl ?_
      | with_reducible refine NormH.mk ?_
      | with_reducible refine Br.tt ?_
      | with_reducible refine Br.ff ?_
      | with_reducible refine Br.not ?_
      | with_reducible refine Br.and ?_
      | with_reducible refine Br.or ?_
      | with_reducible refine Br.isT (by assumption) ?_
      | with_reducible refine Br.isF (by assumption) ?_
      | with_reducible refine Br.eqSelf ?_
      | with_reducible refine Br.eqTF ?_
      | with_reducible refine Br.eqFT ?_
      | with_reducible refine Br.eqT ?_
      | with_reducible refine Br.eqF ?_
      | with_reducible refine Br.Teq ?_
      | with_reducible refine Br.Feq ?_
      | with_reducible refine Br.beqI ?_
      | with_reducible refine Br.bneI ?_
      | with_reducible refine Br.decT (by omega) ?_
      | with_reducible refine Br.decF (by omega) ?_
      | with_reducible refine Br.dec (fun h => ?_) (fun h => ?_)
      | with_reducible refine Br.mk (fun h => ?_) (fun h => ?_)
      | with_reducible refine Side.mk (by omega) ?_
      | with_reducible refine Side.mk (by assumption) ?_
      | with_reducible refine Side.mk rfl ?_
      | refine Side.mk (by exact rfl) ?_
      | with_reducible refine Alt.l (Side.mk (by omega) ?_)
      | with_reducible refine Alt.l (Side.mk (by refine ⟨rfl, ?_⟩; simp only [List.length_cons, List.length_nil]; omega) ?_)
      | refine Alt.l (Side.mk rfl ?_)
      | with_reducible refine Alt.r (Side.mk (by omega) ?_)
      | with_reducible refine Ovf.ok (by unfold inI64; omega) ?_
      | with_reducible refine Ovf.ok (inK64_u8 _) ?_
      | with_reducible refine Ovf.ok (by simp only [inK, decide_eq_true_eq]; omega) ?_
      | with_reducible apply DrawF.mk
      | with_reducible refine ForH.mk (fun _ => ?_)
      | with_reducible apply DrawR.mk
      | with_reducible apply DrawE.mk
      | with_reducible refine Stop.mk (AWP.drawM [] mixed (by kernel_rfl) ?_)
      | with_reducible exact Abs.Fin.mk ⟨rfl, rfl⟩
      | with_reducible refine Abs.Fin.mk ?_
      | with_reducible refine BackK.mk ?_
      | with_reducible refine Stop.b ?_
      | with_reducible refine CallA.b ?_))
  refine .mk <| AWP.loop (α := Nat × Nat) (fun s => s.1 < 9000000000000000000 ∧ s.2 < 9000000000000000000 ∧ Nat.gcd s.1 s.2 = Nat.gcd a b) (fun s => [(0, .int .i64 a), (1, .int .i64 b), (4, .ptr 0 0 0), (5, .int .i64 s.1), (6, .int .i64 s.2)]) (fun s => [.box [.int .i64 0, .int .i64 0]]) (fun s => s.2) (a, b) ⟨ha, hb, rfl⟩ ?_ rfl ?_
  · exact ⟨rfl, rfl, rfl, rfl, rfl, trivial⟩
  rintro ⟨x, y⟩ ⟨h1, h2, h3⟩ -
  refine AwM.out (C := C) ?_
  dsimp only at h1 h2 h3 ⊢
  have hx : y = 0 → x = Nat.gcd a b := by intro e; subst e; rw [← h3, Nat.gcd_zero_right]
  try with_reducible refine CallB.mk ?_
  (repeat' ((conv => whnf); first
      | with_reducible refine RunM.go ?_
      | with_reducible refine AwM.go ?_
      | with_reducible refine DrawM.go ?_
      | refine NormH.go rfl ?_
      | with_reducible refine NormH.mk ?_
      | with_reducible refine Br.tt ?_
      | with_reducible refine Br.ff ?_
      | with_reducible refine Br.not ?_
      | with_reducible refine Br.and ?_
      | with_reducible refine Br.or ?_
      | with_reducible refine Br.isT (by assumption) ?_
      | with_reducible refine Br.isF (by assumption) ?_
      | with_reducible refine Br.eqSelf ?_
      | with_reducible refine Br.eqTF ?_
      | with_reducible refine Br.eqFT ?_
      | with_reducible refine Br.eqT ?_
      | with_reducible refine Br.eqF ?_
      | with_reducible refine Br.Teq ?_
      | with_reducible refine Br.Feq ?_
      | with_reducible refine Br.beqI ?_
      | with_reducible refine Br.bneI ?_
      | with_reducible refine Br.decT (by omega) ?_
      | with_reducible refine Br.decF (by omega) ?_
      | with_reducible refine Br.dec (fun h => ?_) (fun h => ?_)
      | with_reducible refine Br.mk (fun h => ?_) (fun h => ?_)
      | with_reducible refine Side.mk (by omega) ?_
      | with_reducible refine Side.mk (by assumption) ?_
      | with_reducible refine Side.mk rfl ?_
      | refine Side.mk (by exact rfl) ?_
      | with_reducible refine Alt.l (Side.mk (by omega) ?_)
      | with_reducible refine Alt.l (Side.mk (by refine ⟨rfl, ?_⟩; simp only [List.length_cons, List.length_nil]; omega) ?_)
      | refine Alt.l (Side.mk rfl ?_)
      | with_reducible refine Alt.r (Side.mk (by omega) ?_)
      | with_reducible refine Ovf.ok (by unfold inI64; omega) ?_
      | with_reducible refine Ovf.ok (inK64_u8 _) ?_
      | with_reducible refine Ovf.ok (by simp only [inK, decide_eq_true_eq]; omega) ?_
      | with_reducible apply DrawF.mk
      | with_reducible refine ForH.mk (fun _ => ?_)
      | with_reducible apply DrawR.mk
      | with_reducible apply DrawE.mk
      | with_reducible refine Stop.mk (AWP.drawM [] mixed (by kernel_rfl) ?_)
      | with_reducible exact Abs.Fin.mk ⟨rfl, rfl⟩
      | with_reducible refine Abs.Fin.mk ?_
      | with_reducible refine BackK.mk ?_
      | with_reducible refine Stop.b ?_
      | with_reducible refine CallA.b ?_))
  · have : y ≠ 0 := by omega
    have hm := Nat.mod_lt x (Nat.pos_of_ne_zero this)
    refine ⟨(y, x % y), ⟨h2, by dsimp only at *; omega, ?_⟩, hm, ⟨rfl, rfl, rfl, rfl, rfl, trivial⟩, rfl, Nat.le_refl _, rfl, rfl⟩
    dsimp only at *
    rw [← h3, Nat.gcd_comm x y, Nat.gcd_rec y x, Nat.gcd_comm]
  · have := hx (by omega)
    subst this
    exact Tells.eq rfl rfl

/-- Tiles of a set. -/
def tilesN (n : Int) : Int := (n + 1) * (n + 2) / 2

theorem spec_dcTiles (n : Int) (h0 : 0 ≤ n) (h1 : n ≤ 6) : Pu C F.spec_dcTiles [.int .i64 n] (.int .i64 (tilesN n)) := by
  refine pu_of Try.func71 rfl rfl rfl ?_
  have : 0 ≤ (n + 1) * (n + 2) ∧ (n + 1) * (n + 2) ≤ 56 := by
    rcases (by omega : n = 0 ∨ n = 1 ∨ n = 2 ∨ n = 3 ∨ n = 4 ∨ n = 5 ∨ n = 6) with rfl | rfl | rfl | rfl | rfl | rfl | rfl <;> decide
  try with_reducible refine CallB.mk ?_
  (repeat' ((conv => whnf); first
      | with_reducible refine RunM.go ?_
      | with_reducible refine AwM.go ?_
      | with_reducible refine DrawM.go ?_
      | refine NormH.go rfl ?_
      | with_reducible refine NormH.mk ?_
      | with_reducible refine Br.tt ?_
      | with_reducible refine Br.ff ?_
      | with_reducible refine Br.not ?_
      | with_reducible refine Br.and ?_
      | with_reducible refine Br.or ?_
      | with_reducible refine Br.isT (by assumption) ?_
      | with_reducible refine Br.isF (by assumption) ?_
      | with_reducible refine Br.eqSelf ?_
      | with_reducible refine Br.eqTF ?_
      | with_reducible refine Br.eqFT ?_
      | with_reducible refine Br.eqT ?_
      | with_reducible refine Br.eqF ?_
      | with_reducible refine Br.Teq ?_
      | with_reducible refine Br.Feq ?_
      | with_reducible refine Br.beqI ?_
      | with_reducible refine Br.bneI ?_
      | with_reducible refine Br.decT (by omega) ?_
      | with_reducible refine Br.decF (by omega) ?_
      | with_reducible refine Br.dec (fun h => ?_) (fun h => ?_)
      | with_reducible refine Br.mk (fun h => ?_) (fun h => ?_)
      | with_reducible refine Side.mk (by omega) ?_
      | with_reducible refine Side.mk (by assumption) ?_
      | with_reducible refine Side.mk rfl ?_
      | refine Side.mk (by exact rfl) ?_
      | with_reducible refine Alt.l (Side.mk (by omega) ?_)
      | with_reducible refine Alt.l (Side.mk (by refine ⟨rfl, ?_⟩; simp only [List.length_cons, List.length_nil]; omega) ?_)
      | refine Alt.l (Side.mk rfl ?_)
      | with_reducible refine Alt.r (Side.mk (by omega) ?_)
      | with_reducible refine Ovf.ok (by unfold inI64; omega) ?_
      | with_reducible refine Ovf.ok (inK64_u8 _) ?_
      | with_reducible refine Ovf.ok (by simp only [inK, decide_eq_true_eq]; omega) ?_
      | with_reducible apply DrawF.mk
      | with_reducible refine ForH.mk (fun _ => ?_)
      | with_reducible apply DrawR.mk
      | with_reducible apply DrawE.mk
      | with_reducible refine Stop.mk (AWP.drawM [] mixed (by kernel_rfl) ?_)
      | with_reducible exact Abs.Fin.mk ⟨rfl, rfl⟩
      | with_reducible refine Abs.Fin.mk ?_
      | with_reducible refine BackK.mk ?_
      | with_reducible refine Stop.b ?_
      | with_reducible refine CallA.b ?_))
  exact Tells.eq rfl rfl

/-- choose, as it is counted. -/
def chz (n : Nat) : Nat → Nat
  | 0 => 1
  | k + 1 => chz n k * (n - k) / (k + 1)

def inDraw (n k : Int) : Bool := decide (0 ≤ n ∧ n ≤ 6 ∧ 0 ≤ k ∧ k ≤ tilesN n)

theorem spec_dcGood (n k : Int) : Pu C F.spec_dcGood [.int .i64 n, .int .i64 k] (.bool (inDraw n k)) := by
  refine pu_of Try.func69 rfl rfl rfl ?_
  try with_reducible refine CallB.mk ?_
  (repeat' ((conv => whnf); first
      | with_reducible refine RunM.go ?_
      | with_reducible refine AwM.go ?_
      | with_reducible refine DrawM.go ?_
      | refine NormH.go rfl ?_
      | with_reducible refine NormH.mk ?_
      | with_reducible refine Br.tt ?_
      | with_reducible refine Br.ff ?_
      | with_reducible refine Br.not ?_
      | with_reducible refine Br.and ?_
      | with_reducible refine Br.or ?_
      | with_reducible refine Br.isT (by assumption) ?_
      | with_reducible refine Br.isF (by assumption) ?_
      | with_reducible refine Br.eqSelf ?_
      | with_reducible refine Br.eqTF ?_
      | with_reducible refine Br.eqFT ?_
      | with_reducible refine Br.eqT ?_
      | with_reducible refine Br.eqF ?_
      | with_reducible refine Br.Teq ?_
      | with_reducible refine Br.Feq ?_
      | with_reducible refine Br.beqI ?_
      | with_reducible refine Br.bneI ?_
      | with_reducible refine Br.decT (by omega) ?_
      | with_reducible refine Br.decF (by omega) ?_
      | with_reducible refine Br.dec (fun h => ?_) (fun h => ?_)
      | with_reducible refine Br.mk (fun h => ?_) (fun h => ?_)
      | with_reducible refine Side.mk (by omega) ?_
      | with_reducible refine Side.mk (by assumption) ?_
      | with_reducible refine Side.mk rfl ?_
      | refine Side.mk (by exact rfl) ?_
      | with_reducible refine Alt.l (Side.mk (by omega) ?_)
      | with_reducible refine Alt.l (Side.mk (by refine ⟨rfl, ?_⟩; simp only [List.length_cons, List.length_nil]; omega) ?_)
      | refine Alt.l (Side.mk rfl ?_)
      | with_reducible refine Alt.r (Side.mk (by omega) ?_)
      | with_reducible refine Ovf.ok (by unfold inI64; omega) ?_
      | with_reducible refine Ovf.ok (inK64_u8 _) ?_
      | with_reducible refine Ovf.ok (by simp only [inK, decide_eq_true_eq]; omega) ?_
      | with_reducible apply DrawF.mk
      | with_reducible refine ForH.mk (fun _ => ?_)
      | with_reducible apply DrawR.mk
      | with_reducible apply DrawE.mk
      | with_reducible refine Stop.mk (AWP.drawM [] mixed (by kernel_rfl) ?_)
      | with_reducible exact Abs.Fin.mk ⟨rfl, rfl⟩
      | with_reducible refine Abs.Fin.mk ?_
      | refine CallA.pu (spec_l1In _ _ _) rfl rfl ?_
      | refine CallA.pu (spec_dcTiles n (by omega) (by omega)) rfl rfl ?_
      | with_reducible refine BackK.mk ?_
      | with_reducible refine Stop.b ?_
      | with_reducible refine CallA.b ?_))
  all_goals (refine Tells.eq (congrArg AV.bool ?_) rfl; unfold inDraw; first | exact bd (by omega) | exact bf (by omega) | exact bt (by omega))

/-- The same of any numbers. -/
def cho (n k : Int) : Nat := if 0 ≤ k ∧ k ≤ n then chz n.toNat k.toNat else 0

theorem chz_small : ∀ n ≤ 28, ∀ k < n, chz n k * (n - k) < 1000000000000 := by decide

theorem impl_choose (n k : Int) (hn : n ≤ 28) : Pu C F.impl_choose [.int .i64 n, .int .i64 k] (.int .i64 (cho n k)) := by
  refine pu_of Try.func68 rfl rfl rfl ?_
  try with_reducible refine CallB.mk ?_
  (repeat' ((conv => whnf); first
      | with_reducible refine RunM.go ?_
      | with_reducible refine AwM.go ?_
      | with_reducible refine DrawM.go ?_
      | refine NormH.go rfl ?_
      | with_reducible refine NormH.mk ?_
      | with_reducible refine Br.tt ?_
      | with_reducible refine Br.ff ?_
      | with_reducible refine Br.not ?_
      | with_reducible refine Br.and ?_
      | with_reducible refine Br.or ?_
      | with_reducible refine Br.isT (by assumption) ?_
      | with_reducible refine Br.isF (by assumption) ?_
      | with_reducible refine Br.eqSelf ?_
      | with_reducible refine Br.eqTF ?_
      | with_reducible refine Br.eqFT ?_
      | with_reducible refine Br.eqT ?_
      | with_reducible refine Br.eqF ?_
      | with_reducible refine Br.Teq ?_
      | with_reducible refine Br.Feq ?_
      | with_reducible refine Br.beqI ?_
      | with_reducible refine Br.bneI ?_
      | with_reducible refine Br.decT (by omega) ?_
      | with_reducible refine Br.decF (by omega) ?_
      | with_reducible refine Br.dec (fun h => ?_) (fun h => ?_)
      | with_reducible refine Br.mk (fun h => ?_) (fun h => ?_)
      | with_reducible refine Side.mk (by omega) ?_
      | with_reducible refine Side.mk (by assumption) ?_
      | with_reducible refine Side.mk rfl ?_
      | refine Side.mk (by exact rfl) ?_
      | with_reducible refine Alt.l (Side.mk (by omega) ?_)
      | with_reducible refine Alt.l (Side.mk (by refine ⟨rfl, ?_⟩; simp only [List.length_cons, List.length_nil]; omega) ?_)
      | refine Alt.l (Side.mk rfl ?_)
      | with_reducible refine Alt.r (Side.mk (by omega) ?_)
      | with_reducible refine Ovf.ok (by unfold inI64; omega) ?_
      | with_reducible refine Ovf.ok (inK64_u8 _) ?_
      | with_reducible refine Ovf.ok (by simp only [inK, decide_eq_true_eq]; omega) ?_
      | with_reducible apply DrawF.mk
      | with_reducible refine ForH.mk (fun _ => ?_)
      | with_reducible apply DrawR.mk
      | with_reducible apply DrawE.mk
      | with_reducible refine Stop.mk (AWP.drawM [] mixed (by kernel_rfl) ?_)
      | with_reducible exact Abs.Fin.mk ⟨rfl, rfl⟩
      | with_reducible refine Abs.Fin.mk ?_
      | refine CallA.pu (impl_within _ _ _) rfl rfl ?_
      | with_reducible refine BackK.mk ?_
      | with_reducible refine Stop.b ?_
      | with_reducible refine CallA.b ?_))
  · have h0 := h
    obtain ⟨k, rfl⟩ := Int.eq_ofNat_of_zero_le h.1
    obtain ⟨n, rfl⟩ := Int.eq_ofNat_of_zero_le (show 0 ≤ n by omega)
    refine .mk <| AWP.loop (α := Nat) (fun i => i ≤ k) (fun i => [(0, .int .i64 n), (5, .int .i64 (chz n i)), (11, .int .i64 k), (12, .int .i64 i)]) (fun s => []) (fun i => k - i) 0 (Nat.zero_le _) ⟨rfl, rfl, rfl, rfl, trivial⟩ rfl ?_
    rintro i hi -
    refine AwM.out (C := C) ?_
    have hq : i < k → (chz n i : Int) * (n - i) = ((chz n i * (n - i) : Nat) : Int) := by
      intro hi; rw [Int.natCast_mul, Int.natCast_sub (by omega)]
    have hs : i < k → chz n i * (n - i) < 1000000000000 := fun hi => chz_small n (by omega) i (by omega)
    try with_reducible refine CallB.mk ?_
    (repeat' ((conv => whnf); first
        | with_reducible refine RunM.go ?_
        | with_reducible refine AwM.go ?_
        | with_reducible refine DrawM.go ?_
        | refine NormH.go rfl ?_
        | with_reducible refine NormH.mk ?_
        | with_reducible refine Br.tt ?_
        | with_reducible refine Br.ff ?_
        | with_reducible refine Br.not ?_
        | with_reducible refine Br.and ?_
        | with_reducible refine Br.or ?_
        | with_reducible refine Br.isT (by assumption) ?_
        | with_reducible refine Br.isF (by assumption) ?_
        | with_reducible refine Br.eqSelf ?_
        | with_reducible refine Br.eqTF ?_
        | with_reducible refine Br.eqFT ?_
        | with_reducible refine Br.eqT ?_
        | with_reducible refine Br.eqF ?_
        | with_reducible refine Br.Teq ?_
        | with_reducible refine Br.Feq ?_
        | with_reducible refine Br.beqI ?_
        | with_reducible refine Br.bneI ?_
        | with_reducible refine Br.decT (by omega) ?_
        | with_reducible refine Br.decF (by omega) ?_
        | with_reducible refine Br.dec (fun h => ?_) (fun h => ?_)
        | with_reducible refine Br.mk (fun h => ?_) (fun h => ?_)
        | with_reducible refine Side.mk (by omega) ?_
        | with_reducible refine Side.mk (by assumption) ?_
        | with_reducible refine Side.mk rfl ?_
        | refine Side.mk (by exact rfl) ?_
        | with_reducible refine Alt.l (Side.mk (by omega) ?_)
        | with_reducible refine Alt.l (Side.mk (by refine ⟨rfl, ?_⟩; simp only [List.length_cons, List.length_nil]; omega) ?_)
        | refine Alt.l (Side.mk rfl ?_)
        | with_reducible refine Alt.r (Side.mk (by omega) ?_)
        | with_reducible refine Ovf.ok (by unfold inI64; omega) ?_
        | with_reducible refine Ovf.ok (inK64_u8 _) ?_
        | with_reducible refine Ovf.ok (by simp only [inK, decide_eq_true_eq]; omega) ?_
        | with_reducible apply DrawF.mk
        | with_reducible refine ForH.mk (fun _ => ?_)
        | with_reducible apply DrawR.mk
        | with_reducible apply DrawE.mk
        | with_reducible refine Stop.mk (AWP.drawM [] mixed (by kernel_rfl) ?_)
        | with_reducible exact Abs.Fin.mk ⟨rfl, rfl⟩
        | with_reducible refine Abs.Fin.mk ?_
        | with_reducible refine BackK.mk ?_
        | with_reducible refine Stop.b ?_
        | with_reducible refine CallA.b ?_))
    · refine ⟨i + 1, by show i + 1 ≤ k; omega, by show k - (i + 1) < k - i; omega, ⟨rfl, ?_, rfl, rfl, trivial⟩, rfl, Nat.le_refl _, rfl, rfl⟩
      refine congrArg (fun x => some (AV.int .i64 x)) ?_
      rw [hq (by omega)]
      rfl
    · have : i = k := by omega
      subst this
      unfold cho; rw [if_pos h0]
      exact Tells.eq rfl rfl
  · unfold cho; rw [if_neg h]
    exact Tells.eq rfl rfl

theorem spec_dcChoose (n k : Int) (hn : n ≤ 28) : Pu C F.spec_dcChoose [.int .i64 n, .int .i64 k] (.int .i64 (cho n k)) := by
  refine pu_of Try.func70 rfl rfl rfl ?_
  try with_reducible refine CallB.mk ?_
  (repeat' ((conv => whnf); first
      | with_reducible refine RunM.go ?_
      | with_reducible refine AwM.go ?_
      | with_reducible refine DrawM.go ?_
      | refine NormH.go rfl ?_
      | with_reducible refine NormH.mk ?_
      | with_reducible refine Br.tt ?_
      | with_reducible refine Br.ff ?_
      | with_reducible refine Br.not ?_
      | with_reducible refine Br.and ?_
      | with_reducible refine Br.or ?_
      | with_reducible refine Br.isT (by assumption) ?_
      | with_reducible refine Br.isF (by assumption) ?_
      | with_reducible refine Br.eqSelf ?_
      | with_reducible refine Br.eqTF ?_
      | with_reducible refine Br.eqFT ?_
      | with_reducible refine Br.eqT ?_
      | with_reducible refine Br.eqF ?_
      | with_reducible refine Br.Teq ?_
      | with_reducible refine Br.Feq ?_
      | with_reducible refine Br.beqI ?_
      | with_reducible refine Br.bneI ?_
      | with_reducible refine Br.decT (by omega) ?_
      | with_reducible refine Br.decF (by omega) ?_
      | with_reducible refine Br.dec (fun h => ?_) (fun h => ?_)
      | with_reducible refine Br.mk (fun h => ?_) (fun h => ?_)
      | with_reducible refine Side.mk (by omega) ?_
      | with_reducible refine Side.mk (by assumption) ?_
      | with_reducible refine Side.mk rfl ?_
      | refine Side.mk (by exact rfl) ?_
      | with_reducible refine Alt.l (Side.mk (by omega) ?_)
      | with_reducible refine Alt.l (Side.mk (by refine ⟨rfl, ?_⟩; simp only [List.length_cons, List.length_nil]; omega) ?_)
      | refine Alt.l (Side.mk rfl ?_)
      | with_reducible refine Alt.r (Side.mk (by omega) ?_)
      | with_reducible refine Ovf.ok (by unfold inI64; omega) ?_
      | with_reducible refine Ovf.ok (inK64_u8 _) ?_
      | with_reducible refine Ovf.ok (by simp only [inK, decide_eq_true_eq]; omega) ?_
      | with_reducible apply DrawF.mk
      | with_reducible refine ForH.mk (fun _ => ?_)
      | with_reducible apply DrawR.mk
      | with_reducible apply DrawE.mk
      | with_reducible refine Stop.mk (AWP.drawM [] mixed (by kernel_rfl) ?_)
      | with_reducible exact Abs.Fin.mk ⟨rfl, rfl⟩
      | with_reducible refine Abs.Fin.mk ?_
      | with_reducible refine BackK.mk ?_
      | with_reducible refine Stop.b ?_
      | with_reducible refine CallA.b ?_))
  · unfold cho; rw [if_neg (by omega)]; exact Tells.eq rfl rfl
  · unfold cho; rw [if_neg (by omega)]; exact Tells.eq rfl rfl
  · have h0 : 0 ≤ k ∧ k ≤ n := by omega
    obtain ⟨k, rfl⟩ := Int.eq_ofNat_of_zero_le h0.1
    obtain ⟨n, rfl⟩ := Int.eq_ofNat_of_zero_le (show 0 ≤ n by omega)
    refine .mk <| AWP.loop (α := Nat) (fun i => i ≤ k) (fun i => [(0, .int .i64 n), (5, .int .i64 (chz n i)), (1, .int .i64 k), (6, .int .i64 i)]) (fun s => []) (fun i => k - i) 0 (Nat.zero_le _) ⟨rfl, rfl, rfl, rfl, trivial⟩ rfl ?_
    rintro i hi -
    refine AwM.out (C := C) ?_
    have hq : i < k → (chz n i : Int) * (n - i) = ((chz n i * (n - i) : Nat) : Int) := by
      intro hi; rw [Int.natCast_mul, Int.natCast_sub (by omega)]
    have hs : i < k → chz n i * (n - i) < 1000000000000 := fun hi => chz_small n (by omega) i (by omega)
    try with_reducible refine CallB.mk ?_
    (repeat' ((conv => whnf); first
        | with_reducible refine RunM.go ?_
        | with_reducible refine AwM.go ?_
        | with_reducible refine DrawM.go ?_
        | refine NormH.go rfl ?_
        | with_reducible refine NormH.mk ?_
        | with_reducible refine Br.tt ?_
        | with_reducible refine Br.ff ?_
        | with_reducible refine Br.not ?_
        | with_reducible refine Br.and ?_
        | with_reducible refine Br.or ?_
        | with_reducible refine Br.isT (by assumption) ?_
        | with_reducible refine Br.isF (by assumption) ?_
        | with_reducible refine Br.eqSelf ?_
        | with_reducible refine Br.eqTF ?_
        | with_reducible refine Br.eqFT ?_
        | with_reducible refine Br.eqT ?_
        | with_reducible refine Br.eqF ?_
        | with_reducible refine Br.Teq ?_
        | with_reducible refine Br.Feq ?_
        | with_reducible refine Br.beqI ?_
        | with_reducible refine Br.bneI ?_
        | with_reducible refine Br.decT (by omega) ?_
        | with_reducible refine Br.decF (by omega) ?_
        | with_reducible refine Br.dec (fun h => ?_) (fun h => ?_)
        | with_reducible refine Br.mk (fun h => ?_) (fun h => ?_)
        | with_reducible refine Side.mk (by omega) ?_
        | with_reducible refine Side.mk (by assumption) ?_
        | with_reducible refine Side.mk rfl ?_
        | refine Side.mk (by exact rfl) ?_
        | with_reducible refine Alt.l (Side.mk (by omega) ?_)
        | with_reducible refine Alt.l (Side.mk (by refine ⟨rfl, ?_⟩; simp only [List.length_cons, List.length_nil]; omega) ?_)
        | refine Alt.l (Side.mk rfl ?_)
        | with_reducible refine Alt.r (Side.mk (by omega) ?_)
        | with_reducible refine Ovf.ok (by unfold inI64; omega) ?_
        | with_reducible refine Ovf.ok (inK64_u8 _) ?_
        | with_reducible refine Ovf.ok (by simp only [inK, decide_eq_true_eq]; omega) ?_
        | with_reducible apply DrawF.mk
        | with_reducible refine ForH.mk (fun _ => ?_)
        | with_reducible apply DrawR.mk
        | with_reducible apply DrawE.mk
        | with_reducible refine Stop.mk (AWP.drawM [] mixed (by kernel_rfl) ?_)
        | with_reducible exact Abs.Fin.mk ⟨rfl, rfl⟩
        | with_reducible refine Abs.Fin.mk ?_
        | with_reducible refine BackK.mk ?_
        | with_reducible refine Stop.b ?_
        | with_reducible refine CallA.b ?_))
    · refine ⟨i + 1, by show i + 1 ≤ k; omega, by show k - (i + 1) < k - i; omega, ⟨rfl, ?_, rfl, rfl, trivial⟩, rfl, Nat.le_refl _, rfl, rfl⟩
      refine congrArg (fun x => some (AV.int .i64 x)) ?_
      rw [hq (by omega)]
      rfl
    · have : i = k := by omega
      subst this
      unfold cho; rw [if_pos h0]
      exact Tells.eq rfl rfl

theorem tilesN_b {n : Int} (h0 : 0 ≤ n) (h1 : n ≤ 6) : 0 ≤ (n + 1) * (n + 2) ∧ (n + 1) * (n + 2) ≤ 56 ∧ 1 ≤ tilesN n ∧ tilesN n ≤ 28 := by
  unfold tilesN
  rcases (by omega : n = 0 ∨ n = 1 ∨ n = 2 ∨ n = 3 ∨ n = 4 ∨ n = 5 ∨ n = 6) with rfl | rfl | rfl | rfl | rfl | rfl | rfl <;> decide
theorem cho_b {n k : Int} (h0 : 0 ≤ n) (h1 : n ≤ 28) : cho n k ≤ 100000000 ∧ (0 ≤ k → k ≤ n → 0 < cho n k) := by
  unfold cho
  split
  · rename_i h
    have h2 : ∀ n ≤ 28, ∀ k ≤ n, chz n k ≤ 100000000 ∧ 0 < chz n k := by decide
    have := h2 n.toNat (by omega) k.toNat (by omega)
    exact ⟨this.1, fun _ _ => this.2⟩
  · exact ⟨by omega, fun a b => by omega⟩

theorem inDraw_iff {n k : Int} : inDraw n k = true ↔ 0 ≤ n ∧ n ≤ 6 ∧ 0 ≤ k ∧ k ≤ tilesN n := by unfold inDraw; exact decide_eq_true_iff

theorem impl_isDrawn (n k : Int) : Pr C F.impl_isDrawn [.int .i64 n, .int .i64 k] fun v => ∃ t, v = .tup [.int .i64 t, .bool (inDraw n k)] ∧ (inDraw n k = true → t = tilesN n) := by
  refine pr_of Try.func67 rfl rfl rfl ?_
  rcases Classical.em (0 ≤ n ∧ n ≤ 6) with h0 | h0
  · obtain ⟨b1, b2, b3, b4⟩ := tilesN_b h0.1 h0.2
    try with_reducible refine CallB.mk ?_
    (repeat' ((conv => whnf); first
        | with_reducible refine RunM.go ?_
        | with_reducible refine AwM.go ?_
        | with_reducible refine DrawM.go ?_
        | refine NormH.go rfl ?_
        | with_reducible refine NormH.mk ?_
        | with_reducible refine Br.tt ?_
        | with_reducible refine Br.ff ?_
        | with_reducible refine Br.not ?_
        | with_reducible refine Br.and ?_
        | with_reducible refine Br.or ?_
        | with_reducible refine Br.isT (by assumption) ?_
        | with_reducible refine Br.isF (by assumption) ?_
        | with_reducible refine Br.eqSelf ?_
        | with_reducible refine Br.eqTF ?_
        | with_reducible refine Br.eqFT ?_
        | with_reducible refine Br.eqT ?_
        | with_reducible refine Br.eqF ?_
        | with_reducible refine Br.Teq ?_
        | with_reducible refine Br.Feq ?_
        | with_reducible refine Br.beqI ?_
        | with_reducible refine Br.bneI ?_
        | with_reducible refine Br.decT (by omega) ?_
        | with_reducible refine Br.decF (by omega) ?_
        | with_reducible refine Br.dec (fun h => ?_) (fun h => ?_)
        | with_reducible refine Br.mk (fun h => ?_) (fun h => ?_)
        | with_reducible refine Side.mk (by omega) ?_
        | with_reducible refine Side.mk (by assumption) ?_
        | with_reducible refine Side.mk rfl ?_
        | refine Side.mk (by exact rfl) ?_
        | with_reducible refine Alt.l (Side.mk (by omega) ?_)
        | with_reducible refine Alt.l (Side.mk (by refine ⟨rfl, ?_⟩; simp only [List.length_cons, List.length_nil]; omega) ?_)
        | refine Alt.l (Side.mk rfl ?_)
        | with_reducible refine Alt.r (Side.mk (by omega) ?_)
        | with_reducible refine Ovf.ok (by unfold inI64; omega) ?_
        | with_reducible refine Ovf.ok (inK64_u8 _) ?_
        | with_reducible refine Ovf.ok (by simp only [inK, decide_eq_true_eq]; omega) ?_
        | with_reducible apply DrawF.mk
        | with_reducible refine ForH.mk (fun _ => ?_)
        | with_reducible apply DrawR.mk
        | with_reducible apply DrawE.mk
        | with_reducible refine Stop.mk (AWP.drawM [] mixed (by kernel_rfl) ?_)
        | with_reducible exact Abs.Fin.mk ⟨rfl, rfl⟩
        | with_reducible refine Abs.Fin.mk ?_
        | refine CallA.pu (impl_within _ _ _) rfl rfl ?_
        | with_reducible refine BackK.mk ?_
        | with_reducible refine Stop.b ?_
        | with_reducible refine CallA.b ?_))
    all_goals (refine ⟨_, .closed _ rfl, tilesN n, ?_, fun _ => rfl⟩; refine congrArg (fun b => AV.tup [.int .i64 (tilesN n), .bool b]) ?_; unfold inDraw; first | exact bd (by unfold tilesN; omega) | exact bf (by omega) | exact bt (by omega))
  · try with_reducible refine CallB.mk ?_
    (repeat' ((conv => whnf); first
        | with_reducible refine RunM.go ?_
        | with_reducible refine AwM.go ?_
        | with_reducible refine DrawM.go ?_
        | refine NormH.go rfl ?_
        | with_reducible refine NormH.mk ?_
        | with_reducible refine Br.tt ?_
        | with_reducible refine Br.ff ?_
        | with_reducible refine Br.not ?_
        | with_reducible refine Br.and ?_
        | with_reducible refine Br.or ?_
        | with_reducible refine Br.isT (by assumption) ?_
        | with_reducible refine Br.isF (by assumption) ?_
        | with_reducible refine Br.eqSelf ?_
        | with_reducible refine Br.eqTF ?_
        | with_reducible refine Br.eqFT ?_
        | with_reducible refine Br.eqT ?_
        | with_reducible refine Br.eqF ?_
        | with_reducible refine Br.Teq ?_
        | with_reducible refine Br.Feq ?_
        | with_reducible refine Br.beqI ?_
        | with_reducible refine Br.bneI ?_
        | with_reducible refine Br.decT (by omega) ?_
        | with_reducible refine Br.decF (by omega) ?_
        | with_reducible refine Br.dec (fun h => ?_) (fun h => ?_)
        | with_reducible refine Br.mk (fun h => ?_) (fun h => ?_)
        | with_reducible refine Side.mk (by omega) ?_
        | with_reducible refine Side.mk (by assumption) ?_
        | with_reducible refine Side.mk rfl ?_
        | refine Side.mk (by exact rfl) ?_
        | with_reducible refine Alt.l (Side.mk (by omega) ?_)
        | with_reducible refine Alt.l (Side.mk (by refine ⟨rfl, ?_⟩; simp only [List.length_cons, List.length_nil]; omega) ?_)
        | refine Alt.l (Side.mk rfl ?_)
        | with_reducible refine Alt.r (Side.mk (by omega) ?_)
        | with_reducible refine Ovf.ok (by unfold inI64; omega) ?_
        | with_reducible refine Ovf.ok (inK64_u8 _) ?_
        | with_reducible refine Ovf.ok (by simp only [inK, decide_eq_true_eq]; omega) ?_
        | with_reducible apply DrawF.mk
        | with_reducible refine ForH.mk (fun _ => ?_)
        | with_reducible apply DrawR.mk
        | with_reducible apply DrawE.mk
        | with_reducible refine Stop.mk (AWP.drawM [] mixed (by kernel_rfl) ?_)
        | with_reducible exact Abs.Fin.mk ⟨rfl, rfl⟩
        | with_reducible refine Abs.Fin.mk ?_
        | refine CallA.pu (impl_within _ _ _) rfl rfl ?_
        | refine Ovf.split (fun _ => ?_) (fun _ => ?_)
        | with_reducible refine BackK.mk ?_
        | with_reducible refine Stop.b ?_
        | with_reducible refine CallA.b ?_))
    all_goals
      have hf : inDraw n k = false := by unfold inDraw; exact decide_eq_false (by omega)
      rw [hf]
      exact ⟨_, .closed _ rfl, _, rfl, fun h => Bool.noConfusion h⟩

def RB (a b : Int) (t : Bool) : AV := .tup [.agg [.int .i64 a, .int .i64 b], .bool t]
def ifI (b : Bool) (x : Nat) : Int := match b with
  | true => x
  | false => 0
def IB (a : Int) (t : Bool) : AV := .tup [.int .i64 a, .bool t]

theorem impl_CountHands (n k : Int) : Pu C F.impl_CountHands [.int .i64 n, .int .i64 k] (IB (ifI (inDraw n k) (cho (tilesN n) k)) (inDraw n k)) := by
  refine pu_of Try.func8 rfl rfl rfl ?_
  try with_reducible refine CallB.mk ?_
  (repeat' ((conv => whnf); first
      | with_reducible refine RunM.go ?_
      | with_reducible refine AwM.go ?_
      | with_reducible refine DrawM.go ?_
      | refine NormH.go rfl ?_
      | with_reducible refine NormH.mk ?_
      | with_reducible refine Br.tt ?_
      | with_reducible refine Br.ff ?_
      | with_reducible refine Br.not ?_
      | with_reducible refine Br.and ?_
      | with_reducible refine Br.or ?_
      | with_reducible refine Br.isT (by assumption) ?_
      | with_reducible refine Br.isF (by assumption) ?_
      | with_reducible refine Br.eqSelf ?_
      | with_reducible refine Br.eqTF ?_
      | with_reducible refine Br.eqFT ?_
      | with_reducible refine Br.eqT ?_
      | with_reducible refine Br.eqF ?_
      | with_reducible refine Br.Teq ?_
      | with_reducible refine Br.Feq ?_
      | with_reducible refine Br.beqI ?_
      | with_reducible refine Br.bneI ?_
      | with_reducible refine Br.decT (by omega) ?_
      | with_reducible refine Br.decF (by omega) ?_
      | with_reducible refine Br.dec (fun h => ?_) (fun h => ?_)
      | with_reducible refine Br.mk (fun h => ?_) (fun h => ?_)
      | with_reducible refine Side.mk (by omega) ?_
      | with_reducible refine Side.mk (by assumption) ?_
      | with_reducible refine Side.mk rfl ?_
      | refine Side.mk (by exact rfl) ?_
      | with_reducible refine Alt.l (Side.mk (by omega) ?_)
      | with_reducible refine Alt.l (Side.mk (by refine ⟨rfl, ?_⟩; simp only [List.length_cons, List.length_nil]; omega) ?_)
      | refine Alt.l (Side.mk rfl ?_)
      | with_reducible refine Alt.r (Side.mk (by omega) ?_)
      | with_reducible refine Ovf.ok (by unfold inI64; omega) ?_
      | with_reducible refine Ovf.ok (inK64_u8 _) ?_
      | with_reducible refine Ovf.ok (by simp only [inK, decide_eq_true_eq]; omega) ?_
      | with_reducible apply DrawF.mk
      | with_reducible refine ForH.mk (fun _ => ?_)
      | with_reducible apply DrawR.mk
      | with_reducible apply DrawE.mk
      | with_reducible refine Stop.mk (AWP.drawM [] mixed (by kernel_rfl) ?_)
      | with_reducible exact Abs.Fin.mk ⟨rfl, rfl⟩
      | with_reducible refine Abs.Fin.mk ?_
      | refine CallA.pr (impl_isDrawn n k) rfl ?_; rintro _ ⟨t, rfl, ht⟩
      | with_reducible refine BackK.mk ?_
      | with_reducible refine Stop.b ?_
      | with_reducible refine CallA.b ?_))
  · obtain ⟨d1, d2, d3, d4⟩ := inDraw_iff.1 h
    obtain rfl := ht h
    obtain ⟨b1, b2, b3, b4⟩ := tilesN_b d1 d2
    try with_reducible refine CallB.mk ?_
    (repeat' ((conv => whnf); first
        | with_reducible refine RunM.go ?_
        | with_reducible refine AwM.go ?_
        | with_reducible refine DrawM.go ?_
        | refine NormH.go rfl ?_
        | with_reducible refine NormH.mk ?_
        | with_reducible refine Br.tt ?_
        | with_reducible refine Br.ff ?_
        | with_reducible refine Br.not ?_
        | with_reducible refine Br.and ?_
        | with_reducible refine Br.or ?_
        | with_reducible refine Br.isT (by assumption) ?_
        | with_reducible refine Br.isF (by assumption) ?_
        | with_reducible refine Br.eqSelf ?_
        | with_reducible refine Br.eqTF ?_
        | with_reducible refine Br.eqFT ?_
        | with_reducible refine Br.eqT ?_
        | with_reducible refine Br.eqF ?_
        | with_reducible refine Br.Teq ?_
        | with_reducible refine Br.Feq ?_
        | with_reducible refine Br.beqI ?_
        | with_reducible refine Br.bneI ?_
        | with_reducible refine Br.decT (by omega) ?_
        | with_reducible refine Br.decF (by omega) ?_
        | with_reducible refine Br.dec (fun h => ?_) (fun h => ?_)
        | with_reducible refine Br.mk (fun h => ?_) (fun h => ?_)
        | with_reducible refine Side.mk (by omega) ?_
        | with_reducible refine Side.mk (by assumption) ?_
        | with_reducible refine Side.mk rfl ?_
        | refine Side.mk (by exact rfl) ?_
        | with_reducible refine Alt.l (Side.mk (by omega) ?_)
        | with_reducible refine Alt.l (Side.mk (by refine ⟨rfl, ?_⟩; simp only [List.length_cons, List.length_nil]; omega) ?_)
        | refine Alt.l (Side.mk rfl ?_)
        | with_reducible refine Alt.r (Side.mk (by omega) ?_)
        | with_reducible refine Ovf.ok (by unfold inI64; omega) ?_
        | with_reducible refine Ovf.ok (inK64_u8 _) ?_
        | with_reducible refine Ovf.ok (by simp only [inK, decide_eq_true_eq]; omega) ?_
        | with_reducible apply DrawF.mk
        | with_reducible refine ForH.mk (fun _ => ?_)
        | with_reducible apply DrawR.mk
        | with_reducible apply DrawE.mk
        | with_reducible refine Stop.mk (AWP.drawM [] mixed (by kernel_rfl) ?_)
        | with_reducible exact Abs.Fin.mk ⟨rfl, rfl⟩
        | with_reducible refine Abs.Fin.mk ?_
        | refine CallA.pu (impl_choose _ _ b4) rfl rfl ?_
        | with_reducible refine BackK.mk ?_
        | with_reducible refine Stop.b ?_
        | with_reducible refine CallA.b ?_))
    rw [h]; exact Tells.eq rfl rfl
  · rw [h]; exact Tells.eq rfl rfl

theorem spec_CountHands (n k : Int) : Pu C F.spec_CountHands [.int .i64 n, .int .i64 k] (IB (ifI (inDraw n k) (cho (tilesN n) k)) (inDraw n k)) := by
  refine pu_of Try.func9 rfl rfl rfl ?_
  try with_reducible refine CallB.mk ?_
  (repeat' ((conv => whnf); first
      | with_reducible refine RunM.go ?_
      | with_reducible refine AwM.go ?_
      | with_reducible refine DrawM.go ?_
      | refine NormH.go rfl ?_
      | with_reducible refine NormH.mk ?_
      | with_reducible refine Br.tt ?_
      | with_reducible refine Br.ff ?_
      | with_reducible refine Br.not ?_
      | with_reducible refine Br.and ?_
      | with_reducible refine Br.or ?_
      | with_reducible refine Br.isT (by assumption) ?_
      | with_reducible refine Br.isF (by assumption) ?_
      | with_reducible refine Br.eqSelf ?_
      | with_reducible refine Br.eqTF ?_
      | with_reducible refine Br.eqFT ?_
      | with_reducible refine Br.eqT ?_
      | with_reducible refine Br.eqF ?_
      | with_reducible refine Br.Teq ?_
      | with_reducible refine Br.Feq ?_
      | with_reducible refine Br.beqI ?_
      | with_reducible refine Br.bneI ?_
      | with_reducible refine Br.decT (by omega) ?_
      | with_reducible refine Br.decF (by omega) ?_
      | with_reducible refine Br.dec (fun h => ?_) (fun h => ?_)
      | with_reducible refine Br.mk (fun h => ?_) (fun h => ?_)
      | with_reducible refine Side.mk (by omega) ?_
      | with_reducible refine Side.mk (by assumption) ?_
      | with_reducible refine Side.mk rfl ?_
      | refine Side.mk (by exact rfl) ?_
      | with_reducible refine Alt.l (Side.mk (by omega) ?_)
      | with_reducible refine Alt.l (Side.mk (by refine ⟨rfl, ?_⟩; simp only [List.length_cons, List.length_nil]; omega) ?_)
      | refine Alt.l (Side.mk rfl ?_)
      | with_reducible refine Alt.r (Side.mk (by omega) ?_)
      | with_reducible refine Ovf.ok (by unfold inI64; omega) ?_
      | with_reducible refine Ovf.ok (inK64_u8 _) ?_
      | with_reducible refine Ovf.ok (by simp only [inK, decide_eq_true_eq]; omega) ?_
      | with_reducible apply DrawF.mk
      | with_reducible refine ForH.mk (fun _ => ?_)
      | with_reducible apply DrawR.mk
      | with_reducible apply DrawE.mk
      | with_reducible refine Stop.mk (AWP.drawM [] mixed (by kernel_rfl) ?_)
      | with_reducible exact Abs.Fin.mk ⟨rfl, rfl⟩
      | with_reducible refine Abs.Fin.mk ?_
      | refine CallA.pu (spec_dcGood n k) rfl rfl ?_
      | with_reducible refine BackK.mk ?_
      | with_reducible refine Stop.b ?_
      | with_reducible refine CallA.b ?_))
  · obtain ⟨d1, d2, d3, d4⟩ := inDraw_iff.1 h
    obtain ⟨b1, b2, b3, b4⟩ := tilesN_b d1 d2
    try with_reducible refine CallB.mk ?_
    (repeat' ((conv => whnf); first
        | with_reducible refine RunM.go ?_
        | with_reducible refine AwM.go ?_
        | with_reducible refine DrawM.go ?_
        | refine NormH.go rfl ?_
        | with_reducible refine NormH.mk ?_
        | with_reducible refine Br.tt ?_
        | with_reducible refine Br.ff ?_
        | with_reducible refine Br.not ?_
        | with_reducible refine Br.and ?_
        | with_reducible refine Br.or ?_
        | with_reducible refine Br.isT (by assumption) ?_
        | with_reducible refine Br.isF (by assumption) ?_
        | with_reducible refine Br.eqSelf ?_
        | with_reducible refine Br.eqTF ?_
        | with_reducible refine Br.eqFT ?_
        | with_reducible refine Br.eqT ?_
        | with_reducible refine Br.eqF ?_
        | with_reducible refine Br.Teq ?_
        | with_reducible refine Br.Feq ?_
        | with_reducible refine Br.beqI ?_
        | with_reducible refine Br.bneI ?_
        | with_reducible refine Br.decT (by omega) ?_
        | with_reducible refine Br.decF (by omega) ?_
        | with_reducible refine Br.dec (fun h => ?_) (fun h => ?_)
        | with_reducible refine Br.mk (fun h => ?_) (fun h => ?_)
        | with_reducible refine Side.mk (by omega) ?_
        | with_reducible refine Side.mk (by assumption) ?_
        | with_reducible refine Side.mk rfl ?_
        | refine Side.mk (by exact rfl) ?_
        | with_reducible refine Alt.l (Side.mk (by omega) ?_)
        | with_reducible refine Alt.l (Side.mk (by refine ⟨rfl, ?_⟩; simp only [List.length_cons, List.length_nil]; omega) ?_)
        | refine Alt.l (Side.mk rfl ?_)
        | with_reducible refine Alt.r (Side.mk (by omega) ?_)
        | with_reducible refine Ovf.ok (by unfold inI64; omega) ?_
        | with_reducible refine Ovf.ok (inK64_u8 _) ?_
        | with_reducible refine Ovf.ok (by simp only [inK, decide_eq_true_eq]; omega) ?_
        | with_reducible apply DrawF.mk
        | with_reducible refine ForH.mk (fun _ => ?_)
        | with_reducible apply DrawR.mk
        | with_reducible apply DrawE.mk
        | with_reducible refine Stop.mk (AWP.drawM [] mixed (by kernel_rfl) ?_)
        | with_reducible exact Abs.Fin.mk ⟨rfl, rfl⟩
        | with_reducible refine Abs.Fin.mk ?_
        | refine CallA.pu (spec_dcTiles n d1 d2) rfl rfl ?_
        | refine CallA.pu (spec_dcChoose _ _ b4) rfl rfl ?_
        | with_reducible refine BackK.mk ?_
        | with_reducible refine Stop.b ?_
        | with_reducible refine CallA.b ?_))
    rw [h]; exact Tells.eq rfl rfl
  · rw [h]; exact Tells.eq rfl rfl

def inTiles (n k many : Int) : Bool := inDraw n k && decide (0 ≤ many ∧ many ≤ tilesN n)
theorem inTiles_iff {n k m : Int} : inTiles n k m = true ↔ inDraw n k = true ∧ 0 ≤ m ∧ m ≤ tilesN n := by unfold inTiles; rw [Bool.and_eq_true, decide_eq_true_iff]
theorem inTiles_f1 {n k m : Int} (h : inDraw n k = false) : inTiles n k m = false := by unfold inTiles; rw [h]; rfl
theorem inTiles_f2 {n k m : Int} (h : ¬ (0 ≤ m ∧ m ≤ tilesN n)) : inTiles n k m = false := by unfold inTiles; rw [decide_eq_false h, Bool.and_false]
/-- A fraction, if it is right. -/
def RF (g : Bool) (a b : Nat) : AV := RB (ifI g (rnum a b)) (ifI g (rden a b)) g
def mTiles (n k many : Int) : AV := RF (inTiles n k many) (cho (tilesN n - many) (k - many)) (cho (tilesN n) k)

theorem impl_ChanceOfTiles (n k m : Int) : Pu C F.impl_ChanceOfTiles [.int .i64 n, .int .i64 k, .int .i64 m] (mTiles n k m) := by
  refine pu_of Try.func23 rfl rfl rfl ?_
  try with_reducible refine CallB.mk ?_
  (repeat' ((conv => whnf); first
      | with_reducible refine RunM.go ?_
      | with_reducible refine AwM.go ?_
      | with_reducible refine DrawM.go ?_
      | refine NormH.go rfl ?_
      | with_reducible refine NormH.mk ?_
      | with_reducible refine Br.tt ?_
      | with_reducible refine Br.ff ?_
      | with_reducible refine Br.not ?_
      | with_reducible refine Br.and ?_
      | with_reducible refine Br.or ?_
      | with_reducible refine Br.isT (by assumption) ?_
      | with_reducible refine Br.isF (by assumption) ?_
      | with_reducible refine Br.eqSelf ?_
      | with_reducible refine Br.eqTF ?_
      | with_reducible refine Br.eqFT ?_
      | with_reducible refine Br.eqT ?_
      | with_reducible refine Br.eqF ?_
      | with_reducible refine Br.Teq ?_
      | with_reducible refine Br.Feq ?_
      | with_reducible refine Br.beqI ?_
      | with_reducible refine Br.bneI ?_
      | with_reducible refine Br.decT (by omega) ?_
      | with_reducible refine Br.decF (by omega) ?_
      | with_reducible refine Br.dec (fun h => ?_) (fun h => ?_)
      | with_reducible refine Br.mk (fun h => ?_) (fun h => ?_)
      | with_reducible refine Side.mk (by omega) ?_
      | with_reducible refine Side.mk (by assumption) ?_
      | with_reducible refine Side.mk rfl ?_
      | refine Side.mk (by exact rfl) ?_
      | with_reducible refine Alt.l (Side.mk (by omega) ?_)
      | with_reducible refine Alt.l (Side.mk (by refine ⟨rfl, ?_⟩; simp only [List.length_cons, List.length_nil]; omega) ?_)
      | refine Alt.l (Side.mk rfl ?_)
      | with_reducible refine Alt.r (Side.mk (by omega) ?_)
      | with_reducible refine Ovf.ok (by unfold inI64; omega) ?_
      | with_reducible refine Ovf.ok (inK64_u8 _) ?_
      | with_reducible refine Ovf.ok (by simp only [inK, decide_eq_true_eq]; omega) ?_
      | with_reducible apply DrawF.mk
      | with_reducible refine ForH.mk (fun _ => ?_)
      | with_reducible apply DrawR.mk
      | with_reducible apply DrawE.mk
      | with_reducible refine Stop.mk (AWP.drawM [] mixed (by kernel_rfl) ?_)
      | with_reducible exact Abs.Fin.mk ⟨rfl, rfl⟩
      | with_reducible refine Abs.Fin.mk ?_
      | refine CallA.pr (impl_isDrawn n k) rfl ?_; rintro _ ⟨t, rfl, ht⟩
      | with_reducible refine BackK.mk ?_
      | with_reducible refine Stop.b ?_
      | with_reducible refine CallA.b ?_))
  · obtain ⟨d1, d2, d3, d4⟩ := inDraw_iff.1 h
    obtain rfl := ht h
    obtain ⟨b1, b2, b3, b4⟩ := tilesN_b d1 d2
    try with_reducible refine CallB.mk ?_
    (repeat' ((conv => whnf); first
        | with_reducible refine RunM.go ?_
        | with_reducible refine AwM.go ?_
        | with_reducible refine DrawM.go ?_
        | refine NormH.go rfl ?_
        | with_reducible refine NormH.mk ?_
        | with_reducible refine Br.tt ?_
        | with_reducible refine Br.ff ?_
        | with_reducible refine Br.not ?_
        | with_reducible refine Br.and ?_
        | with_reducible refine Br.or ?_
        | with_reducible refine Br.isT (by assumption) ?_
        | with_reducible refine Br.isF (by assumption) ?_
        | with_reducible refine Br.eqSelf ?_
        | with_reducible refine Br.eqTF ?_
        | with_reducible refine Br.eqFT ?_
        | with_reducible refine Br.eqT ?_
        | with_reducible refine Br.eqF ?_
        | with_reducible refine Br.Teq ?_
        | with_reducible refine Br.Feq ?_
        | with_reducible refine Br.beqI ?_
        | with_reducible refine Br.bneI ?_
        | with_reducible refine Br.decT (by omega) ?_
        | with_reducible refine Br.decF (by omega) ?_
        | with_reducible refine Br.dec (fun h => ?_) (fun h => ?_)
        | with_reducible refine Br.mk (fun h => ?_) (fun h => ?_)
        | with_reducible refine Side.mk (by omega) ?_
        | with_reducible refine Side.mk (by assumption) ?_
        | with_reducible refine Side.mk rfl ?_
        | refine Side.mk (by exact rfl) ?_
        | with_reducible refine Alt.l (Side.mk (by omega) ?_)
        | with_reducible refine Alt.l (Side.mk (by refine ⟨rfl, ?_⟩; simp only [List.length_cons, List.length_nil]; omega) ?_)
        | refine Alt.l (Side.mk rfl ?_)
        | with_reducible refine Alt.r (Side.mk (by omega) ?_)
        | with_reducible refine Ovf.ok (by unfold inI64; omega) ?_
        | with_reducible refine Ovf.ok (inK64_u8 _) ?_
        | with_reducible refine Ovf.ok (by simp only [inK, decide_eq_true_eq]; omega) ?_
        | with_reducible apply DrawF.mk
        | with_reducible refine ForH.mk (fun _ => ?_)
        | with_reducible apply DrawR.mk
        | with_reducible apply DrawE.mk
        | with_reducible refine Stop.mk (AWP.drawM [] mixed (by kernel_rfl) ?_)
        | with_reducible exact Abs.Fin.mk ⟨rfl, rfl⟩
        | with_reducible refine Abs.Fin.mk ?_
        | refine CallA.pu (impl_within _ _ _) rfl rfl ?_
        | with_reducible refine BackK.mk ?_
        | with_reducible refine Stop.b ?_
        | with_reducible refine CallA.b ?_))
    · have hc := (cho_b (k := k) (by omega) b4)
      have hc2 := (cho_b (n := tilesN n - m) (k := k - m) (by omega) (by omega)).1
      have hc3 := hc.2 d3 d4
      try with_reducible refine CallB.mk ?_
      (repeat' ((conv => whnf); first
          | with_reducible refine RunM.go ?_
          | with_reducible refine AwM.go ?_
          | with_reducible refine DrawM.go ?_
          | refine NormH.go rfl ?_
          | with_reducible refine NormH.mk ?_
          | with_reducible refine Br.tt ?_
          | with_reducible refine Br.ff ?_
          | with_reducible refine Br.not ?_
          | with_reducible refine Br.and ?_
          | with_reducible refine Br.or ?_
          | with_reducible refine Br.isT (by assumption) ?_
          | with_reducible refine Br.isF (by assumption) ?_
          | with_reducible refine Br.eqSelf ?_
          | with_reducible refine Br.eqTF ?_
          | with_reducible refine Br.eqFT ?_
          | with_reducible refine Br.eqT ?_
          | with_reducible refine Br.eqF ?_
          | with_reducible refine Br.Teq ?_
          | with_reducible refine Br.Feq ?_
          | with_reducible refine Br.beqI ?_
          | with_reducible refine Br.bneI ?_
          | with_reducible refine Br.decT (by omega) ?_
          | with_reducible refine Br.decF (by omega) ?_
          | with_reducible refine Br.dec (fun h => ?_) (fun h => ?_)
          | with_reducible refine Br.mk (fun h => ?_) (fun h => ?_)
          | with_reducible refine Side.mk (by omega) ?_
          | with_reducible refine Side.mk (by assumption) ?_
          | with_reducible refine Side.mk rfl ?_
          | refine Side.mk (by exact rfl) ?_
          | with_reducible refine Alt.l (Side.mk (by omega) ?_)
          | with_reducible refine Alt.l (Side.mk (by refine ⟨rfl, ?_⟩; simp only [List.length_cons, List.length_nil]; omega) ?_)
          | refine Alt.l (Side.mk rfl ?_)
          | with_reducible refine Alt.r (Side.mk (by omega) ?_)
          | with_reducible refine Ovf.ok (by unfold inI64; omega) ?_
          | with_reducible refine Ovf.ok (inK64_u8 _) ?_
          | with_reducible refine Ovf.ok (by simp only [inK, decide_eq_true_eq]; omega) ?_
          | with_reducible apply DrawF.mk
          | with_reducible refine ForH.mk (fun _ => ?_)
          | with_reducible apply DrawR.mk
          | with_reducible apply DrawE.mk
          | with_reducible refine Stop.mk (AWP.drawM [] mixed (by kernel_rfl) ?_)
          | with_reducible exact Abs.Fin.mk ⟨rfl, rfl⟩
          | with_reducible refine Abs.Fin.mk ?_
          | refine CallA.pu (impl_choose (tilesN n - m) (k - m) (by omega)) rfl rfl ?_
          | refine CallA.pu (impl_choose (tilesN n) k b4) rfl rfl ?_
          | refine CallA.pu (impl_ratio (cho (tilesN n - m) (k - m)) (cho (tilesN n) k) (by omega) (by omega) hc3) rfl rfl ?_
          | with_reducible refine BackK.mk ?_
          | with_reducible refine Stop.b ?_
          | with_reducible refine CallA.b ?_))
      unfold mTiles; rw [inTiles_iff.2 ⟨by assumption, by omega, by omega⟩]; exact Tells.eq rfl rfl
    · unfold mTiles; rw [inTiles_f2 h]; exact Tells.eq rfl rfl
  · unfold mTiles; rw [inTiles_f1 h]; exact Tells.eq rfl rfl

theorem spec_ChanceOfTiles (n k m : Int) : Pu C F.spec_ChanceOfTiles [.int .i64 n, .int .i64 k, .int .i64 m] (mTiles n k m) := by
  refine pu_of Try.func28 rfl rfl rfl ?_
  try with_reducible refine CallB.mk ?_
  (repeat' ((conv => whnf); first
      | with_reducible refine RunM.go ?_
      | with_reducible refine AwM.go ?_
      | with_reducible refine DrawM.go ?_
      | refine NormH.go rfl ?_
      | with_reducible refine NormH.mk ?_
      | with_reducible refine Br.tt ?_
      | with_reducible refine Br.ff ?_
      | with_reducible refine Br.not ?_
      | with_reducible refine Br.and ?_
      | with_reducible refine Br.or ?_
      | with_reducible refine Br.isT (by assumption) ?_
      | with_reducible refine Br.isF (by assumption) ?_
      | with_reducible refine Br.eqSelf ?_
      | with_reducible refine Br.eqTF ?_
      | with_reducible refine Br.eqFT ?_
      | with_reducible refine Br.eqT ?_
      | with_reducible refine Br.eqF ?_
      | with_reducible refine Br.Teq ?_
      | with_reducible refine Br.Feq ?_
      | with_reducible refine Br.beqI ?_
      | with_reducible refine Br.bneI ?_
      | with_reducible refine Br.decT (by omega) ?_
      | with_reducible refine Br.decF (by omega) ?_
      | with_reducible refine Br.dec (fun h => ?_) (fun h => ?_)
      | with_reducible refine Br.mk (fun h => ?_) (fun h => ?_)
      | with_reducible refine Side.mk (by omega) ?_
      | with_reducible refine Side.mk (by assumption) ?_
      | with_reducible refine Side.mk rfl ?_
      | refine Side.mk (by exact rfl) ?_
      | with_reducible refine Alt.l (Side.mk (by omega) ?_)
      | with_reducible refine Alt.l (Side.mk (by refine ⟨rfl, ?_⟩; simp only [List.length_cons, List.length_nil]; omega) ?_)
      | refine Alt.l (Side.mk rfl ?_)
      | with_reducible refine Alt.r (Side.mk (by omega) ?_)
      | with_reducible refine Ovf.ok (by unfold inI64; omega) ?_
      | with_reducible refine Ovf.ok (inK64_u8 _) ?_
      | with_reducible refine Ovf.ok (by simp only [inK, decide_eq_true_eq]; omega) ?_
      | with_reducible apply DrawF.mk
      | with_reducible refine ForH.mk (fun _ => ?_)
      | with_reducible apply DrawR.mk
      | with_reducible apply DrawE.mk
      | with_reducible refine Stop.mk (AWP.drawM [] mixed (by kernel_rfl) ?_)
      | with_reducible exact Abs.Fin.mk ⟨rfl, rfl⟩
      | with_reducible refine Abs.Fin.mk ?_
      | refine CallA.pu (spec_dcGood n k) rfl rfl ?_
      | with_reducible refine BackK.mk ?_
      | with_reducible refine Stop.b ?_
      | with_reducible refine CallA.b ?_))
  · obtain ⟨d1, d2, d3, d4⟩ := inDraw_iff.1 h
    obtain ⟨b1, b2, b3, b4⟩ := tilesN_b d1 d2
    try with_reducible refine CallB.mk ?_
    (repeat' ((conv => whnf); first
        | with_reducible refine RunM.go ?_
        | with_reducible refine AwM.go ?_
        | with_reducible refine DrawM.go ?_
        | refine NormH.go rfl ?_
        | with_reducible refine NormH.mk ?_
        | with_reducible refine Br.tt ?_
        | with_reducible refine Br.ff ?_
        | with_reducible refine Br.not ?_
        | with_reducible refine Br.and ?_
        | with_reducible refine Br.or ?_
        | with_reducible refine Br.isT (by assumption) ?_
        | with_reducible refine Br.isF (by assumption) ?_
        | with_reducible refine Br.eqSelf ?_
        | with_reducible refine Br.eqTF ?_
        | with_reducible refine Br.eqFT ?_
        | with_reducible refine Br.eqT ?_
        | with_reducible refine Br.eqF ?_
        | with_reducible refine Br.Teq ?_
        | with_reducible refine Br.Feq ?_
        | with_reducible refine Br.beqI ?_
        | with_reducible refine Br.bneI ?_
        | with_reducible refine Br.decT (by omega) ?_
        | with_reducible refine Br.decF (by omega) ?_
        | with_reducible refine Br.dec (fun h => ?_) (fun h => ?_)
        | with_reducible refine Br.mk (fun h => ?_) (fun h => ?_)
        | with_reducible refine Side.mk (by omega) ?_
        | with_reducible refine Side.mk (by assumption) ?_
        | with_reducible refine Side.mk rfl ?_
        | refine Side.mk (by exact rfl) ?_
        | with_reducible refine Alt.l (Side.mk (by omega) ?_)
        | with_reducible refine Alt.l (Side.mk (by refine ⟨rfl, ?_⟩; simp only [List.length_cons, List.length_nil]; omega) ?_)
        | refine Alt.l (Side.mk rfl ?_)
        | with_reducible refine Alt.r (Side.mk (by omega) ?_)
        | with_reducible refine Ovf.ok (by unfold inI64; omega) ?_
        | with_reducible refine Ovf.ok (inK64_u8 _) ?_
        | with_reducible refine Ovf.ok (by simp only [inK, decide_eq_true_eq]; omega) ?_
        | with_reducible apply DrawF.mk
        | with_reducible refine ForH.mk (fun _ => ?_)
        | with_reducible apply DrawR.mk
        | with_reducible apply DrawE.mk
        | with_reducible refine Stop.mk (AWP.drawM [] mixed (by kernel_rfl) ?_)
        | with_reducible exact Abs.Fin.mk ⟨rfl, rfl⟩
        | with_reducible refine Abs.Fin.mk ?_
        | refine CallA.pu (spec_dcTiles n d1 d2) rfl rfl ?_
        | refine CallA.pu (spec_l1In _ _ _) rfl rfl ?_
        | with_reducible refine BackK.mk ?_
        | with_reducible refine Stop.b ?_
        | with_reducible refine CallA.b ?_))
    · have hc := (cho_b (k := k) (by omega) b4)
      have hc2 := (cho_b (n := tilesN n - m) (k := k - m) (by omega) (by omega)).1
      have hc3 := hc.2 d3 d4
      try with_reducible refine CallB.mk ?_
      (repeat' ((conv => whnf); first
          | with_reducible refine RunM.go ?_
          | with_reducible refine AwM.go ?_
          | with_reducible refine DrawM.go ?_
          | refine NormH.go rfl ?_
          | with_reducible refine NormH.mk ?_
          | with_reducible refine Br.tt ?_
          | with_reducible refine Br.ff ?_
          | with_reducible refine Br.not ?_
          | with_reducible refine Br.and ?_
          | with_reducible refine Br.or ?_
          | with_reducible refine Br.isT (by assumption) ?_
          | with_reducible refine Br.isF (by assumption) ?_
          | with_reducible refine Br.eqSelf ?_
          | with_reducible refine Br.eqTF ?_
          | with_reducible refine Br.eqFT ?_
          | with_reducible refine Br.eqT ?_
          | with_reducible refine Br.eqF ?_
          | with_reducible refine Br.Teq ?_
          | with_reducible refine Br.Feq ?_
          | with_reducible refine Br.beqI ?_
          | with_reducible refine Br.bneI ?_
          | with_reducible refine Br.decT (by omega) ?_
          | with_reducible refine Br.decF (by omega) ?_
          | with_reducible refine Br.dec (fun h => ?_) (fun h => ?_)
          | with_reducible refine Br.mk (fun h => ?_) (fun h => ?_)
          | with_reducible refine Side.mk (by omega) ?_
          | with_reducible refine Side.mk (by assumption) ?_
          | with_reducible refine Side.mk rfl ?_
          | refine Side.mk (by exact rfl) ?_
          | with_reducible refine Alt.l (Side.mk (by omega) ?_)
          | with_reducible refine Alt.l (Side.mk (by refine ⟨rfl, ?_⟩; simp only [List.length_cons, List.length_nil]; omega) ?_)
          | refine Alt.l (Side.mk rfl ?_)
          | with_reducible refine Alt.r (Side.mk (by omega) ?_)
          | with_reducible refine Ovf.ok (by unfold inI64; omega) ?_
          | with_reducible refine Ovf.ok (inK64_u8 _) ?_
          | with_reducible refine Ovf.ok (by simp only [inK, decide_eq_true_eq]; omega) ?_
          | with_reducible apply DrawF.mk
          | with_reducible refine ForH.mk (fun _ => ?_)
          | with_reducible apply DrawR.mk
          | with_reducible apply DrawE.mk
          | with_reducible refine Stop.mk (AWP.drawM [] mixed (by kernel_rfl) ?_)
          | with_reducible exact Abs.Fin.mk ⟨rfl, rfl⟩
          | with_reducible refine Abs.Fin.mk ?_
          | refine CallA.pu (spec_dcTiles n d1 d2) rfl rfl ?_
          | refine CallA.pu (spec_dcChoose (tilesN n - m) (k - m) (by omega)) rfl rfl ?_
          | refine CallA.pu (spec_dcChoose (tilesN n) k b4) rfl rfl ?_
          | refine CallA.pu (spec_dcRatio (cho (tilesN n - m) (k - m)) (cho (tilesN n) k) (by omega) (by omega) hc3) rfl rfl ?_
          | with_reducible refine BackK.mk ?_
          | with_reducible refine Stop.b ?_
          | with_reducible refine CallA.b ?_))
      unfold mTiles; rw [inTiles_iff.2 ⟨by assumption, by omega, by omega⟩]; exact Tells.eq rfl rfl
    · unfold mTiles; rw [inTiles_f2 h]; exact Tells.eq rfl rfl
  · unfold mTiles; rw [inTiles_f1 h]; exact Tells.eq rfl rfl

end Go.Proofs.Ytpignhcdfioldaa
