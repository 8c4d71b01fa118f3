import Derived.Test.YtpignhcdfioldaaChL1

set_option autoImplicit false
set_option maxRecDepth 100000
namespace Go.Proofs.Ytpignhcdfioldaa
open Go Go.Abs

theorem impl_ChanceOfTile (n k : Int) : Pu C F.impl_ChanceOfTile [.int .i64 n, .int .i64 k] (mTiles n k 1) := by
  refine pu_of Try.func10 rfl rfl rfl ?_
  try with_reducible refine CallB.mk ?_
  (repeat' ((conv => whnf); first
      | with_reducible refine RunM.go ?_
      | with_reducible refine AwM.go ?_
      | with_reducible refine DrawM.go ?_
      | refine NormH.go rfl ?_
      | with_reducible refine NormH.mk ?_
      | with_reducible refine Br.tt ?_
      | with_reducible refine Br.ff ?_
      | with_reducible refine Br.not ?_
      | with_reducible refine Br.and ?_
      | with_reducible refine Br.or ?_
      | with_reducible refine Br.isT (by assumption) ?_
      | with_reducible refine Br.isF (by assumption) ?_
      | with_reducible refine Br.eqSelf ?_
      | with_reducible refine Br.eqTF ?_
      | with_reducible refine Br.eqFT ?_
      | with_reducible refine Br.eqT ?_
      | with_reducible refine Br.eqF ?_
      | with_reducible refine Br.Teq ?_
      | with_reducible refine Br.Feq ?_
      | with_reducible refine Br.beqI ?_
      | with_reducible refine Br.bneI ?_
      | with_reducible refine Br.decT (by omega) ?_
      | with_reducible refine Br.decF (by omega) ?_
      | with_reducible refine Br.dec (fun h => ?_) (fun h => ?_)
      | with_reducible refine Br.mk (fun h => ?_) (fun h => ?_)
      | with_reducible refine Side.mk (by omega) ?_
      | with_reducible refine Side.mk (by assumption) ?_
      | with_reducible refine Side.mk rfl ?_
      | refine Side.mk (by exact rfl) ?_
      | with_reducible refine Alt.l (Side.mk (by omega) ?_)
      | with_reducible refine Alt.l (Side.mk (by refine ⟨rfl, ?_⟩; simp only [List.length_cons, List.length_nil]; omega) ?_)
      | refine Alt.l (Side.mk rfl ?_)
      | with_reducible refine Alt.r (Side.mk (by omega) ?_)
      | with_reducible refine Ovf.ok (by unfold inI64; omega) ?_
      | with_reducible refine Ovf.ok (inK64_u8 _) ?_
      | with_reducible refine Ovf.ok (by simp only [inK, decide_eq_true_eq]; omega) ?_
      | with_reducible apply DrawF.mk
      | with_reducible refine ForH.mk (fun _ => ?_)
      | with_reducible apply DrawR.mk
      | with_reducible apply DrawE.mk
      | with_reducible refine Stop.mk (AWP.drawM [] mixed (by kernel_rfl) ?_)
      | with_reducible exact Abs.Fin.mk ⟨rfl, rfl⟩
      | with_reducible refine Abs.Fin.mk ?_
      | refine CallA.pu (impl_ChanceOfTiles n k 1) rfl rfl ?_
      | with_reducible refine BackK.mk ?_
      | with_reducible refine Stop.b ?_
      | with_reducible refine CallA.b ?_))
  exact Tells.eq rfl rfl

theorem spec_ChanceOfTile (n k : Int) : Pu C F.spec_ChanceOfTile [.int .i64 n, .int .i64 k] (RF (inDraw n k) k.toNat (tilesN n).toNat) := by
  refine pu_of Try.func11 rfl rfl rfl ?_
  try with_reducible refine CallB.mk ?_
  (repeat' ((conv => whnf); first
      | with_reducible refine RunM.go ?_
      | with_reducible refine AwM.go ?_
      | with_reducible refine DrawM.go ?_
      | refine NormH.go rfl ?_
      | with_reducible refine NormH.mk ?_
      | with_reducible refine Br.tt ?_
      | with_reducible refine Br.ff ?_
      | with_reducible refine Br.not ?_
      | with_reducible refine Br.and ?_
      | with_reducible refine Br.or ?_
      | with_reducible refine Br.isT (by assumption) ?_
      | with_reducible refine Br.isF (by assumption) ?_
      | with_reducible refine Br.eqSelf ?_
      | with_reducible refine Br.eqTF ?_
      | with_reducible refine Br.eqFT ?_
      | with_reducible refine Br.eqT ?_
      | with_reducible refine Br.eqF ?_
      | with_reducible refine Br.Teq ?_
      | with_reducible refine Br.Feq ?_
      | with_reducible refine Br.beqI ?_
      | with_reducible refine Br.bneI ?_
      | with_reducible refine Br.decT (by omega) ?_
      | with_reducible refine Br.decF (by omega) ?_
      | with_reducible refine Br.dec (fun h => ?_) (fun h => ?_)
      | with_reducible refine Br.mk (fun h => ?_) (fun h => ?_)
      | with_reducible refine Side.mk (by omega) ?_
      | with_reducible refine Side.mk (by assumption) ?_
      | with_reducible refine Side.mk rfl ?_
      | refine Side.mk (by exact rfl) ?_
      | with_reducible refine Alt.l (Side.mk (by omega) ?_)
      | with_reducible refine Alt.l (Side.mk (by refine ⟨rfl, ?_⟩; simp only [List.length_cons, List.length_nil]; omega) ?_)
      | refine Alt.l (Side.mk rfl ?_)
      | with_reducible refine Alt.r (Side.mk (by omega) ?_)
      | with_reducible refine Ovf.ok (by unfold inI64; omega) ?_
      | with_reducible refine Ovf.ok (inK64_u8 _) ?_
      | with_reducible refine Ovf.ok (by simp only [inK, decide_eq_true_eq]; omega) ?_
      | with_reducible apply DrawF.mk
      | with_reducible refine ForH.mk (fun _ => ?_)
      | with_reducible apply DrawR.mk
      | with_reducible apply DrawE.mk
      | with_reducible refine Stop.mk (AWP.drawM [] mixed (by kernel_rfl) ?_)
      | with_reducible exact Abs.Fin.mk ⟨rfl, rfl⟩
      | with_reducible refine Abs.Fin.mk ?_
      | refine CallA.pu (spec_dcGood n k) rfl rfl ?_
      | with_reducible refine BackK.mk ?_
      | with_reducible refine Stop.b ?_
      | with_reducible refine CallA.b ?_))
  · obtain ⟨d1, d2, d3, d4⟩ := inDraw_iff.1 h
    obtain ⟨b1, b2, b3, b4⟩ := tilesN_b d1 d2
    have e1 : ((tilesN n).toNat : Int) = tilesN n := by omega
    have e2 : (k.toNat : Int) = k := by omega
    have := spec_dcRatio k.toNat (tilesN n).toNat (by omega) (by omega) (by omega)
    rw [e1, e2] at this
    try with_reducible refine CallB.mk ?_
    (repeat' ((conv => whnf); first
        | with_reducible refine RunM.go ?_
        | with_reducible refine AwM.go ?_
        | with_reducible refine DrawM.go ?_
        | refine NormH.go rfl ?_
        | with_reducible refine NormH.mk ?_
        | with_reducible refine Br.tt ?_
        | with_reducible refine Br.ff ?_
        | with_reducible refine Br.not ?_
        | with_reducible refine Br.and ?_
        | with_reducible refine Br.or ?_
        | with_reducible refine Br.isT (by assumption) ?_
        | with_reducible refine Br.isF (by assumption) ?_
        | with_reducible refine Br.eqSelf ?_
        | with_reducible refine Br.eqTF ?_
        | with_reducible refine Br.eqFT ?_
        | with_reducible refine Br.eqT ?_
        | with_reducible refine Br.eqF ?_
        | with_reducible refine Br.Teq ?_
        | with_reducible refine Br.Feq ?_
        | with_reducible refine Br.beqI ?_
        | with_reducible refine Br.bneI ?_
        | with_reducible refine Br.decT (by omega) ?_
        | with_reducible refine Br.decF (by omega) ?_
        | with_reducible refine Br.dec (fun h => ?_) (fun h => ?_)
        | with_reducible refine Br.mk (fun h => ?_) (fun h => ?_)
        | with_reducible refine Side.mk (by omega) ?_
        | with_reducible refine Side.mk (by assumption) ?_
        | with_reducible refine Side.mk rfl ?_
        | refine Side.mk (by exact rfl) ?_
        | with_reducible refine Alt.l (Side.mk (by omega) ?_)
        | with_reducible refine Alt.l (Side.mk (by refine ⟨rfl, ?_⟩; simp only [List.length_cons, List.length_nil]; omega) ?_)
        | refine Alt.l (Side.mk rfl ?_)
        | with_reducible refine Alt.r (Side.mk (by omega) ?_)
        | with_reducible refine Ovf.ok (by unfold inI64; omega) ?_
        | with_reducible refine Ovf.ok (inK64_u8 _) ?_
        | with_reducible refine Ovf.ok (by simp only [inK, decide_eq_true_eq]; omega) ?_
        | with_reducible apply DrawF.mk
        | with_reducible refine ForH.mk (fun _ => ?_)
        | with_reducible apply DrawR.mk
        | with_reducible apply DrawE.mk
        | with_reducible refine Stop.mk (AWP.drawM [] mixed (by kernel_rfl) ?_)
        | with_reducible exact Abs.Fin.mk ⟨rfl, rfl⟩
        | with_reducible refine Abs.Fin.mk ?_
        | refine CallA.pu (spec_dcTiles n d1 d2) rfl rfl ?_
        | refine CallA.pu this rfl rfl ?_
        | with_reducible refine BackK.mk ?_
        | with_reducible refine Stop.b ?_
        | with_reducible refine CallA.b ?_))
    rw [h]; exact Tells.eq rfl rfl
  · rw [h]; exact Tells.eq rfl rfl

theorem impl_DoublesMean (n k : Int) : Pu C F.impl_DoublesMean [.int .i64 n, .int .i64 k] (RF (inDraw n k) (k * (n + 1)).toNat (tilesN n).toNat) := by
  refine pu_of Try.func12 rfl rfl rfl ?_
  try with_reducible refine CallB.mk ?_
  (repeat' ((conv => whnf); first
      | with_reducible refine RunM.go ?_
      | with_reducible refine AwM.go ?_
      | with_reducible refine DrawM.go ?_
      | refine NormH.go rfl ?_
      | with_reducible refine NormH.mk ?_
      | with_reducible refine Br.tt ?_
      | with_reducible refine Br.ff ?_
      | with_reducible refine Br.not ?_
      | with_reducible refine Br.and ?_
      | with_reducible refine Br.or ?_
      | with_reducible refine Br.isT (by assumption) ?_
      | with_reducible refine Br.isF (by assumption) ?_
      | with_reducible refine Br.eqSelf ?_
      | with_reducible refine Br.eqTF ?_
      | with_reducible refine Br.eqFT ?_
      | with_reducible refine Br.eqT ?_
      | with_reducible refine Br.eqF ?_
      | with_reducible refine Br.Teq ?_
      | with_reducible refine Br.Feq ?_
      | with_reducible refine Br.beqI ?_
      | with_reducible refine Br.bneI ?_
      | with_reducible refine Br.decT (by omega) ?_
      | with_reducible refine Br.decF (by omega) ?_
      | with_reducible refine Br.dec (fun h => ?_) (fun h => ?_)
      | with_reducible refine Br.mk (fun h => ?_) (fun h => ?_)
      | with_reducible refine Side.mk (by omega) ?_
      | with_reducible refine Side.mk (by assumption) ?_
      | with_reducible refine Side.mk rfl ?_
      | refine Side.mk (by exact rfl) ?_
      | with_reducible refine Alt.l (Side.mk (by omega) ?_)
      | with_reducible refine Alt.l (Side.mk (by refine ⟨rfl, ?_⟩; simp only [List.length_cons, List.length_nil]; omega) ?_)
      | refine Alt.l (Side.mk rfl ?_)
      | with_reducible refine Alt.r (Side.mk (by omega) ?_)
      | with_reducible refine Ovf.ok (by unfold inI64; omega) ?_
      | with_reducible refine Ovf.ok (inK64_u8 _) ?_
      | with_reducible refine Ovf.ok (by simp only [inK, decide_eq_true_eq]; omega) ?_
      | with_reducible apply DrawF.mk
      | with_reducible refine ForH.mk (fun _ => ?_)
      | with_reducible apply DrawR.mk
      | with_reducible apply DrawE.mk
      | with_reducible refine Stop.mk (AWP.drawM [] mixed (by kernel_rfl) ?_)
      | with_reducible exact Abs.Fin.mk ⟨rfl, rfl⟩
      | with_reducible refine Abs.Fin.mk ?_
      | refine CallA.pr (impl_isDrawn n k) rfl ?_; rintro _ ⟨t, rfl, ht⟩
      | with_reducible refine BackK.mk ?_
      | with_reducible refine Stop.b ?_
      | with_reducible refine CallA.b ?_))
  · obtain ⟨d1, d2, d3, d4⟩ := inDraw_iff.1 h
    obtain rfl := ht h
    obtain ⟨b1, b2, b3, b4⟩ := tilesN_b d1 d2
    have e0 : 0 ≤ k * (n + 1) ∧ k * (n + 1) ≤ 28 * 7 := ⟨Int.mul_nonneg d3 (by omega), Int.mul_le_mul (by omega) (by omega) (by omega) (by omega)⟩
    have e1 : ((tilesN n).toNat : Int) = tilesN n := by omega
    have e2 : ((k * (n + 1)).toNat : Int) = k * (n + 1) := by omega
    have := impl_ratio (k * (n + 1)).toNat (tilesN n).toNat (by omega) (by omega) (by omega)
    rw [e1, e2] at this
    try with_reducible refine CallB.mk ?_
    (repeat' ((conv => whnf); first
        | with_reducible refine RunM.go ?_
        | with_reducible refine AwM.go ?_
        | with_reducible refine DrawM.go ?_
        | refine NormH.go rfl ?_
        | with_reducible refine NormH.mk ?_
        | with_reducible refine Br.tt ?_
        | with_reducible refine Br.ff ?_
        | with_reducible refine Br.not ?_
        | with_reducible refine Br.and ?_
        | with_reducible refine Br.or ?_
        | with_reducible refine Br.isT (by assumption) ?_
        | with_reducible refine Br.isF (by assumption) ?_
        | with_reducible refine Br.eqSelf ?_
        | with_reducible refine Br.eqTF ?_
        | with_reducible refine Br.eqFT ?_
        | with_reducible refine Br.eqT ?_
        | with_reducible refine Br.eqF ?_
        | with_reducible refine Br.Teq ?_
        | with_reducible refine Br.Feq ?_
        | with_reducible refine Br.beqI ?_
        | with_reducible refine Br.bneI ?_
        | with_reducible refine Br.decT (by omega) ?_
        | with_reducible refine Br.decF (by omega) ?_
        | with_reducible refine Br.dec (fun h => ?_) (fun h => ?_)
        | with_reducible refine Br.mk (fun h => ?_) (fun h => ?_)
        | with_reducible refine Side.mk (by omega) ?_
        | with_reducible refine Side.mk (by assumption) ?_
        | with_reducible refine Side.mk rfl ?_
        | refine Side.mk (by exact rfl) ?_
        | with_reducible refine Alt.l (Side.mk (by omega) ?_)
        | with_reducible refine Alt.l (Side.mk (by refine ⟨rfl, ?_⟩; simp only [List.length_cons, List.length_nil]; omega) ?_)
        | refine Alt.l (Side.mk rfl ?_)
        | with_reducible refine Alt.r (Side.mk (by omega) ?_)
        | with_reducible refine Ovf.ok (by unfold inI64; omega) ?_
        | with_reducible refine Ovf.ok (inK64_u8 _) ?_
        | with_reducible refine Ovf.ok (by simp only [inK, decide_eq_true_eq]; omega) ?_
        | with_reducible apply DrawF.mk
        | with_reducible refine ForH.mk (fun _ => ?_)
        | with_reducible apply DrawR.mk
        | with_reducible apply DrawE.mk
        | with_reducible refine Stop.mk (AWP.drawM [] mixed (by kernel_rfl) ?_)
        | with_reducible exact Abs.Fin.mk ⟨rfl, rfl⟩
        | with_reducible refine Abs.Fin.mk ?_
        | refine CallA.pu this rfl rfl ?_
        | with_reducible refine BackK.mk ?_
        | with_reducible refine Stop.b ?_
        | with_reducible refine CallA.b ?_))
    rw [h]; exact Tells.eq rfl rfl
  · rw [h]; exact Tells.eq rfl rfl

theorem spec_DoublesMean (n k : Int) : Pu C F.spec_DoublesMean [.int .i64 n, .int .i64 k] (RF (inDraw n k) (k * (n + 1)).toNat (tilesN n).toNat) := by
  refine pu_of Try.func13 rfl rfl rfl ?_
  try with_reducible refine CallB.mk ?_
  (repeat' ((conv => whnf); first
      | with_reducible refine RunM.go ?_
      | with_reducible refine AwM.go ?_
      | with_reducible refine DrawM.go ?_
      | refine NormH.go rfl ?_
      | with_reducible refine NormH.mk ?_
      | with_reducible refine Br.tt ?_
      | with_reducible refine Br.ff ?_
      | with_reducible refine Br.not ?_
      | with_reducible refine Br.and ?_
      | with_reducible refine Br.or ?_
      | with_reducible refine Br.isT (by assumption) ?_
      | with_reducible refine Br.isF (by assumption) ?_
      | with_reducible refine Br.eqSelf ?_
      | with_reducible refine Br.eqTF ?_
      | with_reducible refine Br.eqFT ?_
      | with_reducible refine Br.eqT ?_
      | with_reducible refine Br.eqF ?_
      | with_reducible refine Br.Teq ?_
      | with_reducible refine Br.Feq ?_
      | with_reducible refine Br.beqI ?_
      | with_reducible refine Br.bneI ?_
      | with_reducible refine Br.decT (by omega) ?_
      | with_reducible refine Br.decF (by omega) ?_
      | with_reducible refine Br.dec (fun h => ?_) (fun h => ?_)
      | with_reducible refine Br.mk (fun h => ?_) (fun h => ?_)
      | with_reducible refine Side.mk (by omega) ?_
      | with_reducible refine Side.mk (by assumption) ?_
      | with_reducible refine Side.mk rfl ?_
      | refine Side.mk (by exact rfl) ?_
      | with_reducible refine Alt.l (Side.mk (by omega) ?_)
      | with_reducible refine Alt.l (Side.mk (by refine ⟨rfl, ?_⟩; simp only [List.length_cons, List.length_nil]; omega) ?_)
      | refine Alt.l (Side.mk rfl ?_)
      | with_reducible refine Alt.r (Side.mk (by omega) ?_)
      | with_reducible refine Ovf.ok (by unfold inI64; omega) ?_
      | with_reducible refine Ovf.ok (inK64_u8 _) ?_
      | with_reducible refine Ovf.ok (by simp only [inK, decide_eq_true_eq]; omega) ?_
      | with_reducible apply DrawF.mk
      | with_reducible refine ForH.mk (fun _ => ?_)
      | with_reducible apply DrawR.mk
      | with_reducible apply DrawE.mk
      | with_reducible refine Stop.mk (AWP.drawM [] mixed (by kernel_rfl) ?_)
      | with_reducible exact Abs.Fin.mk ⟨rfl, rfl⟩
      | with_reducible refine Abs.Fin.mk ?_
      | refine CallA.pu (spec_dcGood n k) rfl rfl ?_
      | with_reducible refine BackK.mk ?_
      | with_reducible refine Stop.b ?_
      | with_reducible refine CallA.b ?_))
  · obtain ⟨d1, d2, d3, d4⟩ := inDraw_iff.1 h
    obtain ⟨b1, b2, b3, b4⟩ := tilesN_b d1 d2
    have e0 : 0 ≤ k * (n + 1) ∧ k * (n + 1) ≤ 28 * 7 := ⟨Int.mul_nonneg d3 (by omega), Int.mul_le_mul (by omega) (by omega) (by omega) (by omega)⟩
    have e1 : ((tilesN n).toNat : Int) = tilesN n := by omega
    have e2 : ((k * (n + 1)).toNat : Int) = k * (n + 1) := by omega
    have := spec_dcRatio (k * (n + 1)).toNat (tilesN n).toNat (by omega) (by omega) (by omega)
    rw [e1, e2] at this
    try with_reducible refine CallB.mk ?_
    (repeat' ((conv => whnf); first
        | with_reducible refine RunM.go ?_
        | with_reducible refine AwM.go ?_
        | with_reducible refine DrawM.go ?_
        | refine NormH.go rfl ?_
        | with_reducible refine NormH.mk ?_
        | with_reducible refine Br.tt ?_
        | with_reducible refine Br.ff ?_
        | with_reducible refine Br.not ?_
        | with_reducible refine Br.and ?_
        | with_reducible refine Br.or ?_
        | with_reducible refine Br.isT (by assumption) ?_
        | with_reducible refine Br.isF (by assumption) ?_
        | with_reducible refine Br.eqSelf ?_
        | with_reducible refine Br.eqTF ?_
        | with_reducible refine Br.eqFT ?_
        | with_reducible refine Br.eqT ?_
        | with_reducible refine Br.eqF ?_
        | with_reducible refine Br.Teq ?_
        | with_reducible refine Br.Feq ?_
        | with_reducible refine Br.beqI ?_
        | with_reducible refine Br.bneI ?_
        | with_reducible refine Br.decT (by omega) ?_
        | with_reducible refine Br.decF (by omega) ?_
        | with_reducible refine Br.dec (fun h => ?_) (fun h => ?_)
        | with_reducible refine Br.mk (fun h => ?_) (fun h => ?_)
        | with_reducible refine Side.mk (by omega) ?_
        | with_reducible refine Side.mk (by assumption) ?_
        | with_reducible refine Side.mk rfl ?_
        | refine Side.mk (by exact rfl) ?_
        | with_reducible refine Alt.l (Side.mk (by omega) ?_)
        | with_reducible refine Alt.l (Side.mk (by refine ⟨rfl, ?_⟩; simp only [List.length_cons, List.length_nil]; omega) ?_)
        | refine Alt.l (Side.mk rfl ?_)
        | with_reducible refine Alt.r (Side.mk (by omega) ?_)
        | with_reducible refine Ovf.ok (by unfold inI64; omega) ?_
        | with_reducible refine Ovf.ok (inK64_u8 _) ?_
        | with_reducible refine Ovf.ok (by simp only [inK, decide_eq_true_eq]; omega) ?_
        | with_reducible apply DrawF.mk
        | with_reducible refine ForH.mk (fun _ => ?_)
        | with_reducible apply DrawR.mk
        | with_reducible apply DrawE.mk
        | with_reducible refine Stop.mk (AWP.drawM [] mixed (by kernel_rfl) ?_)
        | with_reducible exact Abs.Fin.mk ⟨rfl, rfl⟩
        | with_reducible refine Abs.Fin.mk ?_
        | refine CallA.pu (spec_dcTiles n d1 d2) rfl rfl ?_
        | refine CallA.pu this rfl rfl ?_
        | with_reducible refine BackK.mk ?_
        | with_reducible refine Stop.b ?_
        | with_reducible refine CallA.b ?_))
    rw [h]; exact Tells.eq rfl rfl
  · rw [h]; exact Tells.eq rfl rfl

def ifZ (b : Bool) (x : Int) : Int := match b with
  | true => x
  | false => 0

theorem impl_PipsMean (n k : Int) : Pu C F.impl_PipsMean [.int .i64 n, .int .i64 k] (RB (ifZ (inDraw n k) (k * n)) (ifI (inDraw n k) 1) (inDraw n k)) := by
  refine pu_of Try.func14 rfl rfl rfl ?_
  try with_reducible refine CallB.mk ?_
  (repeat' ((conv => whnf); first
      | with_reducible refine RunM.go ?_
      | with_reducible refine AwM.go ?_
      | with_reducible refine DrawM.go ?_
      | refine NormH.go rfl ?_
      | with_reducible refine NormH.mk ?_
      | with_reducible refine Br.tt ?_
      | with_reducible refine Br.ff ?_
      | with_reducible refine Br.not ?_
      | with_reducible refine Br.and ?_
      | with_reducible refine Br.or ?_
      | with_reducible refine Br.isT (by assumption) ?_
      | with_reducible refine Br.isF (by assumption) ?_
      | with_reducible refine Br.eqSelf ?_
      | with_reducible refine Br.eqTF ?_
      | with_reducible refine Br.eqFT ?_
      | with_reducible refine Br.eqT ?_
      | with_reducible refine Br.eqF ?_
      | with_reducible refine Br.Teq ?_
      | with_reducible refine Br.Feq ?_
      | with_reducible refine Br.beqI ?_
      | with_reducible refine Br.bneI ?_
      | with_reducible refine Br.decT (by omega) ?_
      | with_reducible refine Br.decF (by omega) ?_
      | with_reducible refine Br.dec (fun h => ?_) (fun h => ?_)
      | with_reducible refine Br.mk (fun h => ?_) (fun h => ?_)
      | with_reducible refine Side.mk (by omega) ?_
      | with_reducible refine Side.mk (by assumption) ?_
      | with_reducible refine Side.mk rfl ?_
      | refine Side.mk (by exact rfl) ?_
      | with_reducible refine Alt.l (Side.mk (by omega) ?_)
      | with_reducible refine Alt.l (Side.mk (by refine ⟨rfl, ?_⟩; simp only [List.length_cons, List.length_nil]; omega) ?_)
      | refine Alt.l (Side.mk rfl ?_)
      | with_reducible refine Alt.r (Side.mk (by omega) ?_)
      | with_reducible refine Ovf.ok (by unfold inI64; omega) ?_
      | with_reducible refine Ovf.ok (inK64_u8 _) ?_
      | with_reducible refine Ovf.ok (by simp only [inK, decide_eq_true_eq]; omega) ?_
      | with_reducible apply DrawF.mk
      | with_reducible refine ForH.mk (fun _ => ?_)
      | with_reducible apply DrawR.mk
      | with_reducible apply DrawE.mk
      | with_reducible refine Stop.mk (AWP.drawM [] mixed (by kernel_rfl) ?_)
      | with_reducible exact Abs.Fin.mk ⟨rfl, rfl⟩
      | with_reducible refine Abs.Fin.mk ?_
      | refine CallA.pr (impl_isDrawn n k) rfl ?_; rintro _ ⟨t, rfl, ht⟩
      | with_reducible refine BackK.mk ?_
      | with_reducible refine Stop.b ?_
      | with_reducible refine CallA.b ?_))
  · obtain ⟨d1, d2, d3, d4⟩ := inDraw_iff.1 h
    obtain rfl := ht h
    obtain ⟨b1, b2, b3, b4⟩ := tilesN_b d1 d2
    have e0 : 0 ≤ k * n ∧ k * n ≤ 28 * 7 := ⟨Int.mul_nonneg d3 (by omega), Int.mul_le_mul (by omega) (by omega) (by omega) (by omega)⟩
    try with_reducible refine CallB.mk ?_
    (repeat' ((conv => whnf); first
        | with_reducible refine RunM.go ?_
        | with_reducible refine AwM.go ?_
        | with_reducible refine DrawM.go ?_
        | refine NormH.go rfl ?_
        | with_reducible refine NormH.mk ?_
        | with_reducible refine Br.tt ?_
        | with_reducible refine Br.ff ?_
        | with_reducible refine Br.not ?_
        | with_reducible refine Br.and ?_
        | with_reducible refine Br.or ?_
        | with_reducible refine Br.isT (by assumption) ?_
        | with_reducible refine Br.isF (by assumption) ?_
        | with_reducible refine Br.eqSelf ?_
        | with_reducible refine Br.eqTF ?_
        | with_reducible refine Br.eqFT ?_
        | with_reducible refine Br.eqT ?_
        | with_reducible refine Br.eqF ?_
        | with_reducible refine Br.Teq ?_
        | with_reducible refine Br.Feq ?_
        | with_reducible refine Br.beqI ?_
        | with_reducible refine Br.bneI ?_
        | with_reducible refine Br.decT (by omega) ?_
        | with_reducible refine Br.decF (by omega) ?_
        | with_reducible refine Br.dec (fun h => ?_) (fun h => ?_)
        | with_reducible refine Br.mk (fun h => ?_) (fun h => ?_)
        | with_reducible refine Side.mk (by omega) ?_
        | with_reducible refine Side.mk (by assumption) ?_
        | with_reducible refine Side.mk rfl ?_
        | refine Side.mk (by exact rfl) ?_
        | with_reducible refine Alt.l (Side.mk (by omega) ?_)
        | with_reducible refine Alt.l (Side.mk (by refine ⟨rfl, ?_⟩; simp only [List.length_cons, List.length_nil]; omega) ?_)
        | refine Alt.l (Side.mk rfl ?_)
        | with_reducible refine Alt.r (Side.mk (by omega) ?_)
        | with_reducible refine Ovf.ok (by unfold inI64; omega) ?_
        | with_reducible refine Ovf.ok (inK64_u8 _) ?_
        | with_reducible refine Ovf.ok (by simp only [inK, decide_eq_true_eq]; omega) ?_
        | with_reducible apply DrawF.mk
        | with_reducible refine ForH.mk (fun _ => ?_)
        | with_reducible apply DrawR.mk
        | with_reducible apply DrawE.mk
        | with_reducible refine Stop.mk (AWP.drawM [] mixed (by kernel_rfl) ?_)
        | with_reducible exact Abs.Fin.mk ⟨rfl, rfl⟩
        | with_reducible refine Abs.Fin.mk ?_
        | with_reducible refine BackK.mk ?_
        | with_reducible refine Stop.b ?_
        | with_reducible refine CallA.b ?_))
    rw [h]; exact Tells.eq rfl rfl
  · rw [h]; exact Tells.eq rfl rfl

theorem spec_PipsMean (n k : Int) : Pu C F.spec_PipsMean [.int .i64 n, .int .i64 k] (RB (ifZ (inDraw n k) (k * n)) (ifI (inDraw n k) 1) (inDraw n k)) := by
  refine pu_of Try.func15 rfl rfl rfl ?_
  try with_reducible refine CallB.mk ?_
  (repeat' ((conv => whnf); first
      | with_reducible refine RunM.go ?_
      | with_reducible refine AwM.go ?_
      | with_reducible refine DrawM.go ?_
      | refine NormH.go rfl ?_
      | with_reducible refine NormH.mk ?_
      | with_reducible refine Br.tt ?_
      | with_reducible refine Br.ff ?_
      | with_reducible refine Br.not ?_
      | with_reducible refine Br.and ?_
      | with_reducible refine Br.or ?_
      | with_reducible refine Br.isT (by assumption) ?_
      | with_reducible refine Br.isF (by assumption) ?_
      | with_reducible refine Br.eqSelf ?_
      | with_reducible refine Br.eqTF ?_
      | with_reducible refine Br.eqFT ?_
      | with_reducible refine Br.eqT ?_
      | with_reducible refine Br.eqF ?_
      | with_reducible refine Br.Teq ?_
      | with_reducible refine Br.Feq ?_
      | with_reducible refine Br.beqI ?_
      | with_reducible refine Br.bneI ?_
      | with_reducible refine Br.decT (by omega) ?_
      | with_reducible refine Br.decF (by omega) ?_
      | with_reducible refine Br.dec (fun h => ?_) (fun h => ?_)
      | with_reducible refine Br.mk (fun h => ?_) (fun h => ?_)
      | with_reducible refine Side.mk (by omega) ?_
      | with_reducible refine Side.mk (by assumption) ?_
      | with_reducible refine Side.mk rfl ?_
      | refine Side.mk (by exact rfl) ?_
      | with_reducible refine Alt.l (Side.mk (by omega) ?_)
      | with_reducible refine Alt.l (Side.mk (by refine ⟨rfl, ?_⟩; simp only [List.length_cons, List.length_nil]; omega) ?_)
      | refine Alt.l (Side.mk rfl ?_)
      | with_reducible refine Alt.r (Side.mk (by omega) ?_)
      | with_reducible refine Ovf.ok (by unfold inI64; omega) ?_
      | with_reducible refine Ovf.ok (inK64_u8 _) ?_
      | with_reducible refine Ovf.ok (by simp only [inK, decide_eq_true_eq]; omega) ?_
      | with_reducible apply DrawF.mk
      | with_reducible refine ForH.mk (fun _ => ?_)
      | with_reducible apply DrawR.mk
      | with_reducible apply DrawE.mk
      | with_reducible refine Stop.mk (AWP.drawM [] mixed (by kernel_rfl) ?_)
      | with_reducible exact Abs.Fin.mk ⟨rfl, rfl⟩
      | with_reducible refine Abs.Fin.mk ?_
      | refine CallA.pu (spec_dcGood n k) rfl rfl ?_
      | with_reducible refine BackK.mk ?_
      | with_reducible refine Stop.b ?_
      | with_reducible refine CallA.b ?_))
  · obtain ⟨d1, d2, d3, d4⟩ := inDraw_iff.1 h
    obtain ⟨b1, b2, b3, b4⟩ := tilesN_b d1 d2
    have e0 : 0 ≤ k * n ∧ k * n ≤ 28 * 7 := ⟨Int.mul_nonneg d3 (by omega), Int.mul_le_mul (by omega) (by omega) (by omega) (by omega)⟩
    try with_reducible refine CallB.mk ?_
    (repeat' ((conv => whnf); first
        | with_reducible refine RunM.go ?_
        | with_reducible refine AwM.go ?_
        | with_reducible refine DrawM.go ?_
        | refine NormH.go rfl ?_
        | with_reducible refine NormH.mk ?_
        | with_reducible refine Br.tt ?_
        | with_reducible refine Br.ff ?_
        | with_reducible refine Br.not ?_
        | with_reducible refine Br.and ?_
        | with_reducible refine Br.or ?_
        | with_reducible refine Br.isT (by assumption) ?_
        | with_reducible refine Br.isF (by assumption) ?_
        | with_reducible refine Br.eqSelf ?_
        | with_reducible refine Br.eqTF ?_
        | with_reducible refine Br.eqFT ?_
        | with_reducible refine Br.eqT ?_
        | with_reducible refine Br.eqF ?_
        | with_reducible refine Br.Teq ?_
        | with_reducible refine Br.Feq ?_
        | with_reducible refine Br.beqI ?_
        | with_reducible refine Br.bneI ?_
        | with_reducible refine Br.decT (by omega) ?_
        | with_reducible refine Br.decF (by omega) ?_
        | with_reducible refine Br.dec (fun h => ?_) (fun h => ?_)
        | with_reducible refine Br.mk (fun h => ?_) (fun h => ?_)
        | with_reducible refine Side.mk (by omega) ?_
        | with_reducible refine Side.mk (by assumption) ?_
        | with_reducible refine Side.mk rfl ?_
        | refine Side.mk (by exact rfl) ?_
        | with_reducible refine Alt.l (Side.mk (by omega) ?_)
        | with_reducible refine Alt.l (Side.mk (by refine ⟨rfl, ?_⟩; simp only [List.length_cons, List.length_nil]; omega) ?_)
        | refine Alt.l (Side.mk rfl ?_)
        | with_reducible refine Alt.r (Side.mk (by omega) ?_)
        | with_reducible refine Ovf.ok (by unfold inI64; omega) ?_
        | with_reducible refine Ovf.ok (inK64_u8 _) ?_
        | with_reducible refine Ovf.ok (by simp only [inK, decide_eq_true_eq]; omega) ?_
        | with_reducible apply DrawF.mk
        | with_reducible refine ForH.mk (fun _ => ?_)
        | with_reducible apply DrawR.mk
        | with_reducible apply DrawE.mk
        | with_reducible refine Stop.mk (AWP.drawM [] mixed (by kernel_rfl) ?_)
        | with_reducible exact Abs.Fin.mk ⟨rfl, rfl⟩
        | with_reducible refine Abs.Fin.mk ?_
        | with_reducible refine BackK.mk ?_
        | with_reducible refine Stop.b ?_
        | with_reducible refine CallA.b ?_))
    rw [h]; exact Tells.eq rfl rfl
  · rw [h]; exact Tells.eq rfl rfl


/-- Just many of some tiles. -/
def jus (t k some many : Int) : Nat := cho some many * cho (t - some) (k - many)

theorem jus_b {t k s m : Int} (h0 : 0 ≤ s) (h1 : s ≤ t) (h2 : t ≤ 28) : jus t k s m ≤ 10000000000000000 := by
  unfold jus
  have a1 := (cho_b (n := s) (k := m) h0 (by omega)).1
  have a2 := (cho_b (n := t - s) (k := k - m) (by omega) (by omega)).1
  exact Nat.le_trans (Nat.mul_le_mul a1 a2) (by decide)

theorem impl_among (t k s m : Int) (h0 : 0 ≤ s) (h1 : s ≤ t) (h2 : t ≤ 28) (h3 : 0 ≤ k) (h4 : k ≤ t) (h5 : 0 ≤ m) (h6 : m ≤ 28) : Pu C F.impl_among [.int .i64 t, .int .i64 k, .int .i64 s, .int .i64 m]
    (.agg [.int .i64 (rnum (jus t k s m) (cho t k)), .int .i64 (rden (jus t k s m) (cho t k))]) := by
  refine pu_of Try.func79 rfl rfl rfl ?_
  have hj := jus_b (k := k) (m := m) h0 h1 h2
  have hc := (cho_b (n := t) (k := k) (by omega) h2)
  have hc3 := hc.2 h3 h4
  have hjj : ((jus t k s m : Nat) : Int) = (cho s m : Int) * (cho (t - s) (k - m) : Int) := by unfold jus; exact Int.natCast_mul _ _
  have := impl_ratio (jus t k s m) (cho t k) (by omega) (by omega) hc3
  rw [hjj] at this
  have hjb : 0 ≤ (cho s m : Int) * (cho (t - s) (k - m) : Int) ∧ (cho s m : Int) * (cho (t - s) (k - m) : Int) ≤ 10000000000000000 := by rw [← hjj]; omega
  try with_reducible refine CallB.mk ?_
  (repeat' ((conv => whnf); first
      | with_reducible refine RunM.go ?_
      | with_reducible refine AwM.go ?_
      | with_reducible refine DrawM.go ?_
      | refine NormH.go rfl ?_
      | with_reducible refine NormH.mk ?_
      | with_reducible refine Br.tt ?_
      | with_reducible refine Br.ff ?_
      | with_reducible refine Br.not ?_
      | with_reducible refine Br.and ?_
      | with_reducible refine Br.or ?_
      | with_reducible refine Br.isT (by assumption) ?_
      | with_reducible refine Br.isF (by assumption) ?_
      | with_reducible refine Br.eqSelf ?_
      | with_reducible refine Br.eqTF ?_
      | with_reducible refine Br.eqFT ?_
      | with_reducible refine Br.eqT ?_
      | with_reducible refine Br.eqF ?_
      | with_reducible refine Br.Teq ?_
      | with_reducible refine Br.Feq ?_
      | with_reducible refine Br.beqI ?_
      | with_reducible refine Br.bneI ?_
      | with_reducible refine Br.decT (by omega) ?_
      | with_reducible refine Br.decF (by omega) ?_
      | with_reducible refine Br.dec (fun h => ?_) (fun h => ?_)
      | with_reducible refine Br.mk (fun h => ?_) (fun h => ?_)
      | with_reducible refine Side.mk (by omega) ?_
      | with_reducible refine Side.mk (by assumption) ?_
      | with_reducible refine Side.mk rfl ?_
      | refine Side.mk (by exact rfl) ?_
      | with_reducible refine Alt.l (Side.mk (by omega) ?_)
      | with_reducible refine Alt.l (Side.mk (by refine ⟨rfl, ?_⟩; simp only [List.length_cons, List.length_nil]; omega) ?_)
      | refine Alt.l (Side.mk rfl ?_)
      | with_reducible refine Alt.r (Side.mk (by omega) ?_)
      | with_reducible refine Ovf.ok (by unfold inI64; omega) ?_
      | with_reducible refine Ovf.ok (inK64_u8 _) ?_
      | with_reducible refine Ovf.ok (by simp only [inK, decide_eq_true_eq]; omega) ?_
      | with_reducible apply DrawF.mk
      | with_reducible refine ForH.mk (fun _ => ?_)
      | with_reducible apply DrawR.mk
      | with_reducible apply DrawE.mk
      | with_reducible refine Stop.mk (AWP.drawM [] mixed (by kernel_rfl) ?_)
      | with_reducible exact Abs.Fin.mk ⟨rfl, rfl⟩
      | with_reducible refine Abs.Fin.mk ?_
      | refine CallA.pu (impl_choose s m (by omega)) rfl rfl ?_
      | refine CallA.pu (impl_choose (t - s) (k - m) (by omega)) rfl rfl ?_
      | refine CallA.pu (impl_choose t k h2) rfl rfl ?_
      | refine CallA.pu this rfl rfl ?_
      | with_reducible refine BackK.mk ?_
      | with_reducible refine Stop.b ?_
      | with_reducible refine CallA.b ?_))
  all_goals exact Tells.eq rfl rfl

def inDbl (n k many : Int) : Bool := inDraw n k && decide (0 ≤ many ∧ many ≤ n + 1)
theorem inDbl_iff {n k m : Int} : inDbl n k m = true ↔ inDraw n k = true ∧ 0 ≤ m ∧ m ≤ n + 1 := by unfold inDbl; rw [Bool.and_eq_true, decide_eq_true_iff]

theorem inDbl_f1 {n k m : Int} (h : inDraw n k = false) : inDbl n k m = false := by unfold inDbl; rw [h]; rfl
theorem inDbl_f2 {n k m : Int} (h : ¬ (0 ≤ m ∧ m ≤ n + 1)) : inDbl n k m = false := by unfold inDbl; rw [decide_eq_false h, Bool.and_false]
theorem tilesN_n {n : Int} (h0 : 0 ≤ n) (h1 : n ≤ 6) : n + 1 ≤ tilesN n := by
  unfold tilesN
  rcases (by omega : n = 0 ∨ n = 1 ∨ n = 2 ∨ n = 3 ∨ n = 4 ∨ n = 5 ∨ n = 6) with rfl | rfl | rfl | rfl | rfl | rfl | rfl <;> decide

theorem impl_ChanceOfDoubles (n k m : Int) : Pu C F.impl_ChanceOfDoubles [.int .i64 n, .int .i64 k, .int .i64 m] (RF (inDbl n k m) (jus (tilesN n) k (n + 1) m) (cho (tilesN n) k)) := by
  refine pu_of Try.func20 rfl rfl rfl ?_
  try with_reducible refine CallB.mk ?_
  (repeat' ((conv => whnf); first
      | with_reducible refine RunM.go ?_
      | with_reducible refine AwM.go ?_
      | with_reducible refine DrawM.go ?_
      | refine NormH.go rfl ?_
      | with_reducible refine NormH.mk ?_
      | with_reducible refine Br.tt ?_
      | with_reducible refine Br.ff ?_
      | with_reducible refine Br.not ?_
      | with_reducible refine Br.and ?_
      | with_reducible refine Br.or ?_
      | with_reducible refine Br.isT (by assumption) ?_
      | with_reducible refine Br.isF (by assumption) ?_
      | with_reducible refine Br.eqSelf ?_
      | with_reducible refine Br.eqTF ?_
      | with_reducible refine Br.eqFT ?_
      | with_reducible refine Br.eqT ?_
      | with_reducible refine Br.eqF ?_
      | with_reducible refine Br.Teq ?_
      | with_reducible refine Br.Feq ?_
      | with_reducible refine Br.beqI ?_
      | with_reducible refine Br.bneI ?_
      | with_reducible refine Br.decT (by omega) ?_
      | with_reducible refine Br.decF (by omega) ?_
      | with_reducible refine Br.dec (fun h => ?_) (fun h => ?_)
      | with_reducible refine Br.mk (fun h => ?_) (fun h => ?_)
      | with_reducible refine Side.mk (by omega) ?_
      | with_reducible refine Side.mk (by assumption) ?_
      | with_reducible refine Side.mk rfl ?_
      | refine Side.mk (by exact rfl) ?_
      | with_reducible refine Alt.l (Side.mk (by omega) ?_)
      | with_reducible refine Alt.l (Side.mk (by refine ⟨rfl, ?_⟩; simp only [List.length_cons, List.length_nil]; omega) ?_)
      | refine Alt.l (Side.mk rfl ?_)
      | with_reducible refine Alt.r (Side.mk (by omega) ?_)
      | with_reducible refine Ovf.ok (by unfold inI64; omega) ?_
      | with_reducible refine Ovf.ok (inK64_u8 _) ?_
      | with_reducible refine Ovf.ok (by simp only [inK, decide_eq_true_eq]; omega) ?_
      | with_reducible apply DrawF.mk
      | with_reducible refine ForH.mk (fun _ => ?_)
      | with_reducible apply DrawR.mk
      | with_reducible apply DrawE.mk
      | with_reducible refine Stop.mk (AWP.drawM [] mixed (by kernel_rfl) ?_)
      | with_reducible exact Abs.Fin.mk ⟨rfl, rfl⟩
      | with_reducible refine Abs.Fin.mk ?_
      | refine CallA.pr (impl_isDrawn n k) rfl ?_; rintro _ ⟨t, rfl, ht⟩
      | with_reducible refine BackK.mk ?_
      | with_reducible refine Stop.b ?_
      | with_reducible refine CallA.b ?_))
  · obtain ⟨d1, d2, d3, d4⟩ := inDraw_iff.1 h
    obtain rfl := ht h
    obtain ⟨b1, b2, b3, b4⟩ := tilesN_b d1 d2
    have hn := tilesN_n d1 d2
    try with_reducible refine CallB.mk ?_
    (repeat' ((conv => whnf); first
        | with_reducible refine RunM.go ?_
        | with_reducible refine AwM.go ?_
        | with_reducible refine DrawM.go ?_
        | refine NormH.go rfl ?_
        | with_reducible refine NormH.mk ?_
        | with_reducible refine Br.tt ?_
        | with_reducible refine Br.ff ?_
        | with_reducible refine Br.not ?_
        | with_reducible refine Br.and ?_
        | with_reducible refine Br.or ?_
        | with_reducible refine Br.isT (by assumption) ?_
        | with_reducible refine Br.isF (by assumption) ?_
        | with_reducible refine Br.eqSelf ?_
        | with_reducible refine Br.eqTF ?_
        | with_reducible refine Br.eqFT ?_
        | with_reducible refine Br.eqT ?_
        | with_reducible refine Br.eqF ?_
        | with_reducible refine Br.Teq ?_
        | with_reducible refine Br.Feq ?_
        | with_reducible refine Br.beqI ?_
        | with_reducible refine Br.bneI ?_
        | with_reducible refine Br.decT (by omega) ?_
        | with_reducible refine Br.decF (by omega) ?_
        | with_reducible refine Br.dec (fun h => ?_) (fun h => ?_)
        | with_reducible refine Br.mk (fun h => ?_) (fun h => ?_)
        | with_reducible refine Side.mk (by omega) ?_
        | with_reducible refine Side.mk (by assumption) ?_
        | with_reducible refine Side.mk rfl ?_
        | refine Side.mk (by exact rfl) ?_
        | with_reducible refine Alt.l (Side.mk (by omega) ?_)
        | with_reducible refine Alt.l (Side.mk (by refine ⟨rfl, ?_⟩; simp only [List.length_cons, List.length_nil]; omega) ?_)
        | refine Alt.l (Side.mk rfl ?_)
        | with_reducible refine Alt.r (Side.mk (by omega) ?_)
        | with_reducible refine Ovf.ok (by unfold inI64; omega) ?_
        | with_reducible refine Ovf.ok (inK64_u8 _) ?_
        | with_reducible refine Ovf.ok (by simp only [inK, decide_eq_true_eq]; omega) ?_
        | with_reducible apply DrawF.mk
        | with_reducible refine ForH.mk (fun _ => ?_)
        | with_reducible apply DrawR.mk
        | with_reducible apply DrawE.mk
        | with_reducible refine Stop.mk (AWP.drawM [] mixed (by kernel_rfl) ?_)
        | with_reducible exact Abs.Fin.mk ⟨rfl, rfl⟩
        | with_reducible refine Abs.Fin.mk ?_
        | refine CallA.pu (impl_within _ _ _) rfl rfl ?_
        | refine CallA.pu (impl_among (tilesN n) k (n + 1) m (by omega) hn b4 d3 d4 (by omega) (by omega)) rfl rfl ?_
        | with_reducible refine BackK.mk ?_
        | with_reducible refine Stop.b ?_
        | with_reducible refine CallA.b ?_))
    · rw [inDbl_iff.2 ⟨by assumption, by omega, by omega⟩]; exact Tells.eq rfl rfl
    · rw [inDbl_f2 h]; exact Tells.eq rfl rfl
  · rw [inDbl_f1 h]; exact Tells.eq rfl rfl

theorem impl_ChanceOfTimes (n k m : Int) : Pu C F.impl_ChanceOfTimes [.int .i64 n, .int .i64 k, .int .i64 m] (RF (inDbl n k m) (jus (tilesN n) k (n + 1) m) (cho (tilesN n) k)) := by
  refine pu_of Try.func21 rfl rfl rfl ?_
  try with_reducible refine CallB.mk ?_
  (repeat' ((conv => whnf); first
      | with_reducible refine RunM.go ?_
      | with_reducible refine AwM.go ?_
      | with_reducible refine DrawM.go ?_
      | refine NormH.go rfl ?_
      | with_reducible refine NormH.mk ?_
      | with_reducible refine Br.tt ?_
      | with_reducible refine Br.ff ?_
      | with_reducible refine Br.not ?_
      | with_reducible refine Br.and ?_
      | with_reducible refine Br.or ?_
      | with_reducible refine Br.isT (by assumption) ?_
      | with_reducible refine Br.isF (by assumption) ?_
      | with_reducible refine Br.eqSelf ?_
      | with_reducible refine Br.eqTF ?_
      | with_reducible refine Br.eqFT ?_
      | with_reducible refine Br.eqT ?_
      | with_reducible refine Br.eqF ?_
      | with_reducible refine Br.Teq ?_
      | with_reducible refine Br.Feq ?_
      | with_reducible refine Br.beqI ?_
      | with_reducible refine Br.bneI ?_
      | with_reducible refine Br.decT (by omega) ?_
      | with_reducible refine Br.decF (by omega) ?_
      | with_reducible refine Br.dec (fun h => ?_) (fun h => ?_)
      | with_reducible refine Br.mk (fun h => ?_) (fun h => ?_)
      | with_reducible refine Side.mk (by omega) ?_
      | with_reducible refine Side.mk (by assumption) ?_
      | with_reducible refine Side.mk rfl ?_
      | refine Side.mk (by exact rfl) ?_
      | with_reducible refine Alt.l (Side.mk (by omega) ?_)
      | with_reducible refine Alt.l (Side.mk (by refine ⟨rfl, ?_⟩; simp only [List.length_cons, List.length_nil]; omega) ?_)
      | refine Alt.l (Side.mk rfl ?_)
      | with_reducible refine Alt.r (Side.mk (by omega) ?_)
      | with_reducible refine Ovf.ok (by unfold inI64; omega) ?_
      | with_reducible refine Ovf.ok (inK64_u8 _) ?_
      | with_reducible refine Ovf.ok (by simp only [inK, decide_eq_true_eq]; omega) ?_
      | with_reducible apply DrawF.mk
      | with_reducible refine ForH.mk (fun _ => ?_)
      | with_reducible apply DrawR.mk
      | with_reducible apply DrawE.mk
      | with_reducible refine Stop.mk (AWP.drawM [] mixed (by kernel_rfl) ?_)
      | with_reducible exact Abs.Fin.mk ⟨rfl, rfl⟩
      | with_reducible refine Abs.Fin.mk ?_
      | refine CallA.pu (impl_ChanceOfDoubles n k m) rfl rfl ?_
      | with_reducible refine BackK.mk ?_
      | with_reducible refine Stop.b ?_
      | with_reducible refine CallA.b ?_))
  exact Tells.eq rfl rfl

/-- How many tiles have none of many numbers. -/
def lef (n m : Int) : Int := (n + 1 - m) * (n + 1 - m + 1) / 2
theorem lef_b {n m : Int} (h0 : 0 ≤ n) (h1 : n ≤ 6) (h2 : 0 ≤ m) (h3 : m ≤ n + 1) : 0 ≤ lef n m ∧ lef n m ≤ tilesN n ∧ 0 ≤ (n + 1 - m) * (n + 1 - m + 1) ∧ (n + 1 - m) * (n + 1 - m + 1) ≤ 100 := by
  unfold lef tilesN
  rcases (by omega : n = 0 ∨ n = 1 ∨ n = 2 ∨ n = 3 ∨ n = 4 ∨ n = 5 ∨ n = 6) with rfl | rfl | rfl | rfl | rfl | rfl | rfl <;>
  rcases (by omega : m = 0 ∨ m = 1 ∨ m = 2 ∨ m = 3 ∨ m = 4 ∨ m = 5 ∨ m = 6 ∨ m = 7) with rfl | rfl | rfl | rfl | rfl | rfl | rfl | rfl <;> first | decide | (exfalso; omega)

theorem impl_ChanceWithout (n k m : Int) : Pu C F.impl_ChanceWithout [.int .i64 n, .int .i64 k, .int .i64 m] (RF (inDbl n k m) (jus (tilesN n) k (lef n m) k) (cho (tilesN n) k)) := by
  refine pu_of Try.func24 rfl rfl rfl ?_
  try with_reducible refine CallB.mk ?_
  (repeat' ((conv => whnf); first
      | with_reducible refine RunM.go ?_
      | with_reducible refine AwM.go ?_
      | with_reducible refine DrawM.go ?_
      | refine NormH.go rfl ?_
      | with_reducible refine NormH.mk ?_
      | with_reducible refine Br.tt ?_
      | with_reducible refine Br.ff ?_
      | with_reducible refine Br.not ?_
      | with_reducible refine Br.and ?_
      | with_reducible refine Br.or ?_
      | with_reducible refine Br.isT (by assumption) ?_
      | with_reducible refine Br.isF (by assumption) ?_
      | with_reducible refine Br.eqSelf ?_
      | with_reducible refine Br.eqTF ?_
      | with_reducible refine Br.eqFT ?_
      | with_reducible refine Br.eqT ?_
      | with_reducible refine Br.eqF ?_
      | with_reducible refine Br.Teq ?_
      | with_reducible refine Br.Feq ?_
      | with_reducible refine Br.beqI ?_
      | with_reducible refine Br.bneI ?_
      | with_reducible refine Br.decT (by omega) ?_
      | with_reducible refine Br.decF (by omega) ?_
      | with_reducible refine Br.dec (fun h => ?_) (fun h => ?_)
      | with_reducible refine Br.mk (fun h => ?_) (fun h => ?_)
      | with_reducible refine Side.mk (by omega) ?_
      | with_reducible refine Side.mk (by assumption) ?_
      | with_reducible refine Side.mk rfl ?_
      | refine Side.mk (by exact rfl) ?_
      | with_reducible refine Alt.l (Side.mk (by omega) ?_)
      | with_reducible refine Alt.l (Side.mk (by refine ⟨rfl, ?_⟩; simp only [List.length_cons, List.length_nil]; omega) ?_)
      | refine Alt.l (Side.mk rfl ?_)
      | with_reducible refine Alt.r (Side.mk (by omega) ?_)
      | with_reducible refine Ovf.ok (by unfold inI64; omega) ?_
      | with_reducible refine Ovf.ok (inK64_u8 _) ?_
      | with_reducible refine Ovf.ok (by simp only [inK, decide_eq_true_eq]; omega) ?_
      | with_reducible apply DrawF.mk
      | with_reducible refine ForH.mk (fun _ => ?_)
      | with_reducible apply DrawR.mk
      | with_reducible apply DrawE.mk
      | with_reducible refine Stop.mk (AWP.drawM [] mixed (by kernel_rfl) ?_)
      | with_reducible exact Abs.Fin.mk ⟨rfl, rfl⟩
      | with_reducible refine Abs.Fin.mk ?_
      | refine CallA.pr (impl_isDrawn n k) rfl ?_; rintro _ ⟨t, rfl, ht⟩
      | with_reducible refine BackK.mk ?_
      | with_reducible refine Stop.b ?_
      | with_reducible refine CallA.b ?_))
  · obtain ⟨d1, d2, d3, d4⟩ := inDraw_iff.1 h
    obtain rfl := ht h
    obtain ⟨b1, b2, b3, b4⟩ := tilesN_b d1 d2
    have hn := tilesN_n d1 d2
    try with_reducible refine CallB.mk ?_
    (repeat' ((conv => whnf); first
        | with_reducible refine RunM.go ?_
        | with_reducible refine AwM.go ?_
        | with_reducible refine DrawM.go ?_
        | refine NormH.go rfl ?_
        | with_reducible refine NormH.mk ?_
        | with_reducible refine Br.tt ?_
        | with_reducible refine Br.ff ?_
        | with_reducible refine Br.not ?_
        | with_reducible refine Br.and ?_
        | with_reducible refine Br.or ?_
        | with_reducible refine Br.isT (by assumption) ?_
        | with_reducible refine Br.isF (by assumption) ?_
        | with_reducible refine Br.eqSelf ?_
        | with_reducible refine Br.eqTF ?_
        | with_reducible refine Br.eqFT ?_
        | with_reducible refine Br.eqT ?_
        | with_reducible refine Br.eqF ?_
        | with_reducible refine Br.Teq ?_
        | with_reducible refine Br.Feq ?_
        | with_reducible refine Br.beqI ?_
        | with_reducible refine Br.bneI ?_
        | with_reducible refine Br.decT (by omega) ?_
        | with_reducible refine Br.decF (by omega) ?_
        | with_reducible refine Br.dec (fun h => ?_) (fun h => ?_)
        | with_reducible refine Br.mk (fun h => ?_) (fun h => ?_)
        | with_reducible refine Side.mk (by omega) ?_
        | with_reducible refine Side.mk (by assumption) ?_
        | with_reducible refine Side.mk rfl ?_
        | refine Side.mk (by exact rfl) ?_
        | with_reducible refine Alt.l (Side.mk (by omega) ?_)
        | with_reducible refine Alt.l (Side.mk (by refine ⟨rfl, ?_⟩; simp only [List.length_cons, List.length_nil]; omega) ?_)
        | refine Alt.l (Side.mk rfl ?_)
        | with_reducible refine Alt.r (Side.mk (by omega) ?_)
        | with_reducible refine Ovf.ok (by unfold inI64; omega) ?_
        | with_reducible refine Ovf.ok (inK64_u8 _) ?_
        | with_reducible refine Ovf.ok (by simp only [inK, decide_eq_true_eq]; omega) ?_
        | with_reducible apply DrawF.mk
        | with_reducible refine ForH.mk (fun _ => ?_)
        | with_reducible apply DrawR.mk
        | with_reducible apply DrawE.mk
        | with_reducible refine Stop.mk (AWP.drawM [] mixed (by kernel_rfl) ?_)
        | with_reducible exact Abs.Fin.mk ⟨rfl, rfl⟩
        | with_reducible refine Abs.Fin.mk ?_
        | refine CallA.pu (impl_within _ _ _) rfl rfl ?_
        | with_reducible refine BackK.mk ?_
        | with_reducible refine Stop.b ?_
        | with_reducible refine CallA.b ?_))
    · obtain ⟨l1, l2, l3, l4⟩ := lef_b (m := m) d1 d2 (by omega) (by omega)
      try with_reducible refine CallB.mk ?_
      (repeat' ((conv => whnf); first
          | with_reducible refine RunM.go ?_
          | with_reducible refine AwM.go ?_
          | with_reducible refine DrawM.go ?_
          | refine NormH.go rfl ?_
          | with_reducible refine NormH.mk ?_
          | with_reducible refine Br.tt ?_
          | with_reducible refine Br.ff ?_
          | with_reducible refine Br.not ?_
          | with_reducible refine Br.and ?_
          | with_reducible refine Br.or ?_
          | with_reducible refine Br.isT (by assumption) ?_
          | with_reducible refine Br.isF (by assumption) ?_
          | with_reducible refine Br.eqSelf ?_
          | with_reducible refine Br.eqTF ?_
          | with_reducible refine Br.eqFT ?_
          | with_reducible refine Br.eqT ?_
          | with_reducible refine Br.eqF ?_
          | with_reducible refine Br.Teq ?_
          | with_reducible refine Br.Feq ?_
          | with_reducible refine Br.beqI ?_
          | with_reducible refine Br.bneI ?_
          | with_reducible refine Br.decT (by omega) ?_
          | with_reducible refine Br.decF (by omega) ?_
          | with_reducible refine Br.dec (fun h => ?_) (fun h => ?_)
          | with_reducible refine Br.mk (fun h => ?_) (fun h => ?_)
          | with_reducible refine Side.mk (by omega) ?_
          | with_reducible refine Side.mk (by assumption) ?_
          | with_reducible refine Side.mk rfl ?_
          | refine Side.mk (by exact rfl) ?_
          | with_reducible refine Alt.l (Side.mk (by omega) ?_)
          | with_reducible refine Alt.l (Side.mk (by refine ⟨rfl, ?_⟩; simp only [List.length_cons, List.length_nil]; omega) ?_)
          | refine Alt.l (Side.mk rfl ?_)
          | with_reducible refine Alt.r (Side.mk (by omega) ?_)
          | with_reducible refine Ovf.ok (by unfold inI64; omega) ?_
          | with_reducible refine Ovf.ok (inK64_u8 _) ?_
          | with_reducible refine Ovf.ok (by simp only [inK, decide_eq_true_eq]; omega) ?_
          | with_reducible apply DrawF.mk
          | with_reducible refine ForH.mk (fun _ => ?_)
          | with_reducible apply DrawR.mk
          | with_reducible apply DrawE.mk
          | with_reducible refine Stop.mk (AWP.drawM [] mixed (by kernel_rfl) ?_)
          | with_reducible exact Abs.Fin.mk ⟨rfl, rfl⟩
          | with_reducible refine Abs.Fin.mk ?_
          | refine CallA.pu (impl_among (tilesN n) k (lef n m) k l1 l2 b4 d3 d4 d3 (by omega)) rfl rfl ?_
          | with_reducible refine BackK.mk ?_
          | with_reducible refine Stop.b ?_
          | with_reducible refine CallA.b ?_))
      rw [inDbl_iff.2 ⟨by assumption, by omega, by omega⟩]; exact Tells.eq rfl rfl
    · rw [inDbl_f2 h]; exact Tells.eq rfl rfl
  · rw [inDbl_f1 h]; exact Tells.eq rfl rfl

/-- The other chance. -/
def RO (g : Bool) (a b : Nat) : AV := RB (ifZ g (rden a b - rnum a b)) (ifI g (rden a b)) g

theorem rden_b (a b : Nat) : rden a b ≤ b := Nat.div_le_self _ _
theorem rnum_b (a b : Nat) : rnum a b ≤ a := Nat.div_le_self _ _
theorem inDbl_0 (n k : Int) : inDbl n k 0 = inDraw n k := by
  unfold inDbl
  cases h : inDraw n k with
  | false => rfl
  | true => have := inDraw_iff.1 h; rw [decide_eq_true (by omega)]; rfl

theorem impl_ChanceOfOpening (n k : Int) : Pu C F.impl_ChanceOfOpening [.int .i64 n, .int .i64 k] (RO (inDraw n k) (jus (tilesN n) k (n + 1) 0) (cho (tilesN n) k)) := by
  refine pu_of Try.func16 rfl rfl rfl ?_
  have hc := impl_ChanceOfDoubles n k 0
  rw [inDbl_0] at hc
  cases h : inDraw n k with
  | false =>
    rw [h] at hc
    try with_reducible refine CallB.mk ?_
    (repeat' ((conv => whnf); first
        | with_reducible refine RunM.go ?_
        | with_reducible refine AwM.go ?_
        | with_reducible refine DrawM.go ?_
        | refine NormH.go rfl ?_
        | with_reducible refine NormH.mk ?_
        | with_reducible refine Br.tt ?_
        | with_reducible refine Br.ff ?_
        | with_reducible refine Br.not ?_
        | with_reducible refine Br.and ?_
        | with_reducible refine Br.or ?_
        | with_reducible refine Br.isT (by assumption) ?_
        | with_reducible refine Br.isF (by assumption) ?_
        | with_reducible refine Br.eqSelf ?_
        | with_reducible refine Br.eqTF ?_
        | with_reducible refine Br.eqFT ?_
        | with_reducible refine Br.eqT ?_
        | with_reducible refine Br.eqF ?_
        | with_reducible refine Br.Teq ?_
        | with_reducible refine Br.Feq ?_
        | with_reducible refine Br.beqI ?_
        | with_reducible refine Br.bneI ?_
        | with_reducible refine Br.decT (by omega) ?_
        | with_reducible refine Br.decF (by omega) ?_
        | with_reducible refine Br.dec (fun h => ?_) (fun h => ?_)
        | with_reducible refine Br.mk (fun h => ?_) (fun h => ?_)
        | with_reducible refine Side.mk (by omega) ?_
        | with_reducible refine Side.mk (by assumption) ?_
        | with_reducible refine Side.mk rfl ?_
        | refine Side.mk (by exact rfl) ?_
        | with_reducible refine Alt.l (Side.mk (by omega) ?_)
        | with_reducible refine Alt.l (Side.mk (by refine ⟨rfl, ?_⟩; simp only [List.length_cons, List.length_nil]; omega) ?_)
        | refine Alt.l (Side.mk rfl ?_)
        | with_reducible refine Alt.r (Side.mk (by omega) ?_)
        | with_reducible refine Ovf.ok (by unfold inI64; omega) ?_
        | with_reducible refine Ovf.ok (inK64_u8 _) ?_
        | with_reducible refine Ovf.ok (by simp only [inK, decide_eq_true_eq]; omega) ?_
        | with_reducible apply DrawF.mk
        | with_reducible refine ForH.mk (fun _ => ?_)
        | with_reducible apply DrawR.mk
        | with_reducible apply DrawE.mk
        | with_reducible refine Stop.mk (AWP.drawM [] mixed (by kernel_rfl) ?_)
        | with_reducible exact Abs.Fin.mk ⟨rfl, rfl⟩
        | with_reducible refine Abs.Fin.mk ?_
        | refine CallA.pu hc rfl rfl ?_
        | with_reducible refine BackK.mk ?_
        | with_reducible refine Stop.b ?_
        | with_reducible refine CallA.b ?_))
    all_goals exact Tells.eq rfl rfl
  | true =>
    rw [h] at hc
    obtain ⟨d1, d2, d3, d4⟩ := inDraw_iff.1 h
    obtain ⟨b1, b2, b3, b4⟩ := tilesN_b d1 d2
    have h1 := rden_b (jus (tilesN n) k (n + 1) 0) (cho (tilesN n) k)
    have h2 := rnum_b (jus (tilesN n) k (n + 1) 0) (cho (tilesN n) k)
    have h3 := jus_b (k := k) (m := 0) (s := n + 1) (by omega) (tilesN_n d1 d2) b4
    have h4 := (cho_b (n := tilesN n) (k := k) (by omega) b4).1
    have h5 : ifI true (rnum (jus (tilesN n) k (n + 1) 0) (cho (tilesN n) k)) = (rnum (jus (tilesN n) k (n + 1) 0) (cho (tilesN n) k) : Int) := rfl
    have h6 : ifI true (rden (jus (tilesN n) k (n + 1) 0) (cho (tilesN n) k)) = (rden (jus (tilesN n) k (n + 1) 0) (cho (tilesN n) k) : Int) := rfl
    try with_reducible refine CallB.mk ?_
    (repeat' ((conv => whnf); first
        | with_reducible refine RunM.go ?_
        | with_reducible refine AwM.go ?_
        | with_reducible refine DrawM.go ?_
        | refine NormH.go rfl ?_
        | with_reducible refine NormH.mk ?_
        | with_reducible refine Br.tt ?_
        | with_reducible refine Br.ff ?_
        | with_reducible refine Br.not ?_
        | with_reducible refine Br.and ?_
        | with_reducible refine Br.or ?_
        | with_reducible refine Br.isT (by assumption) ?_
        | with_reducible refine Br.isF (by assumption) ?_
        | with_reducible refine Br.eqSelf ?_
        | with_reducible refine Br.eqTF ?_
        | with_reducible refine Br.eqFT ?_
        | with_reducible refine Br.eqT ?_
        | with_reducible refine Br.eqF ?_
        | with_reducible refine Br.Teq ?_
        | with_reducible refine Br.Feq ?_
        | with_reducible refine Br.beqI ?_
        | with_reducible refine Br.bneI ?_
        | with_reducible refine Br.decT (by omega) ?_
        | with_reducible refine Br.decF (by omega) ?_
        | with_reducible refine Br.dec (fun h => ?_) (fun h => ?_)
        | with_reducible refine Br.mk (fun h => ?_) (fun h => ?_)
        | with_reducible refine Side.mk (by omega) ?_
        | with_reducible refine Side.mk (by assumption) ?_
        | with_reducible refine Side.mk rfl ?_
        | refine Side.mk (by exact rfl) ?_
        | with_reducible refine Alt.l (Side.mk (by omega) ?_)
        | with_reducible refine Alt.l (Side.mk (by refine ⟨rfl, ?_⟩; simp only [List.length_cons, List.length_nil]; omega) ?_)
        | refine Alt.l (Side.mk rfl ?_)
        | with_reducible refine Alt.r (Side.mk (by omega) ?_)
        | with_reducible refine Ovf.ok (by unfold inI64; omega) ?_
        | with_reducible refine Ovf.ok (inK64_u8 _) ?_
        | with_reducible refine Ovf.ok (by simp only [inK, decide_eq_true_eq]; omega) ?_
        | with_reducible apply DrawF.mk
        | with_reducible refine ForH.mk (fun _ => ?_)
        | with_reducible apply DrawR.mk
        | with_reducible apply DrawE.mk
        | with_reducible refine Stop.mk (AWP.drawM [] mixed (by kernel_rfl) ?_)
        | with_reducible exact Abs.Fin.mk ⟨rfl, rfl⟩
        | with_reducible refine Abs.Fin.mk ?_
        | refine CallA.pu hc rfl rfl ?_
        | with_reducible refine BackK.mk ?_
        | with_reducible refine Stop.b ?_
        | with_reducible refine CallA.b ?_))
    all_goals exact Tells.eq rfl rfl

theorem chz_op : ∀ n : Nat, n ≤ 6 → ∀ k : Nat, k ≤ 28 → cho (tilesN n - n - 1) k ≤ cho (tilesN n) k := by decide
theorem cho_op {n k : Int} (h : inDraw n k = true) : cho (tilesN n - n - 1) k ≤ cho (tilesN n) k := by
  obtain ⟨d1, d2, d3, d4⟩ := inDraw_iff.1 h
  have := (tilesN_b d1 d2).2.2.2
  obtain ⟨n, rfl⟩ := Int.eq_ofNat_of_zero_le d1
  obtain ⟨k, rfl⟩ := Int.eq_ofNat_of_zero_le d3
  exact chz_op n (by omega) k (by omega)

theorem spec_ChanceOfOpening (n k : Int) : Pu C F.spec_ChanceOfOpening [.int .i64 n, .int .i64 k] (RF (inDraw n k) (cho (tilesN n) k - cho (tilesN n - n - 1) k) (cho (tilesN n) k)) := by
  refine pu_of Try.func17 rfl rfl rfl ?_
  try with_reducible refine CallB.mk ?_
  (repeat' ((conv => whnf); first
      | with_reducible refine RunM.go ?_
      | with_reducible refine AwM.go ?_
      | with_reducible refine DrawM.go ?_
      | refine NormH.go rfl ?_
      | with_reducible refine NormH.mk ?_
      | with_reducible refine Br.tt ?_
      | with_reducible refine Br.ff ?_
      | with_reducible refine Br.not ?_
      | with_reducible refine Br.and ?_
      | with_reducible refine Br.or ?_
      | with_reducible refine Br.isT (by assumption) ?_
      | with_reducible refine Br.isF (by assumption) ?_
      | with_reducible refine Br.eqSelf ?_
      | with_reducible refine Br.eqTF ?_
      | with_reducible refine Br.eqFT ?_
      | with_reducible refine Br.eqT ?_
      | with_reducible refine Br.eqF ?_
      | with_reducible refine Br.Teq ?_
      | with_reducible refine Br.Feq ?_
      | with_reducible refine Br.beqI ?_
      | with_reducible refine Br.bneI ?_
      | with_reducible refine Br.decT (by omega) ?_
      | with_reducible refine Br.decF (by omega) ?_
      | with_reducible refine Br.dec (fun h => ?_) (fun h => ?_)
      | with_reducible refine Br.mk (fun h => ?_) (fun h => ?_)
      | with_reducible refine Side.mk (by omega) ?_
      | with_reducible refine Side.mk (by assumption) ?_
      | with_reducible refine Side.mk rfl ?_
      | refine Side.mk (by exact rfl) ?_
      | with_reducible refine Alt.l (Side.mk (by omega) ?_)
      | with_reducible refine Alt.l (Side.mk (by refine ⟨rfl, ?_⟩; simp only [List.length_cons, List.length_nil]; omega) ?_)
      | refine Alt.l (Side.mk rfl ?_)
      | with_reducible refine Alt.r (Side.mk (by omega) ?_)
      | with_reducible refine Ovf.ok (by unfold inI64; omega) ?_
      | with_reducible refine Ovf.ok (inK64_u8 _) ?_
      | with_reducible refine Ovf.ok (by simp only [inK, decide_eq_true_eq]; omega) ?_
      | with_reducible apply DrawF.mk
      | with_reducible refine ForH.mk (fun _ => ?_)
      | with_reducible apply DrawR.mk
      | with_reducible apply DrawE.mk
      | with_reducible refine Stop.mk (AWP.drawM [] mixed (by kernel_rfl) ?_)
      | with_reducible exact Abs.Fin.mk ⟨rfl, rfl⟩
      | with_reducible refine Abs.Fin.mk ?_
      | refine CallA.pu (spec_dcGood n k) rfl rfl ?_
      | with_reducible refine BackK.mk ?_
      | with_reducible refine Stop.b ?_
      | with_reducible refine CallA.b ?_))
  · obtain ⟨d1, d2, d3, d4⟩ := inDraw_iff.1 h
    obtain ⟨b1, b2, b3, b4⟩ := tilesN_b d1 d2
    have hn := tilesN_n d1 d2
    have hc := (cho_b (k := k) (by omega) b4)
    have hc2 := (cho_b (n := tilesN n - n - 1) (k := k) (by omega) (by omega)).1
    have hc3 := hc.2 d3 d4
    have ho := cho_op h
    have := spec_dcRatio (cho (tilesN n) k - cho (tilesN n - n - 1) k) (cho (tilesN n) k) (by omega) (by omega) hc3
    rw [Int.natCast_sub ho] at this
    try with_reducible refine CallB.mk ?_
    (repeat' ((conv => whnf); first
        | with_reducible refine RunM.go ?_
        | with_reducible refine AwM.go ?_
        | with_reducible refine DrawM.go ?_
        | refine NormH.go rfl ?_
        | with_reducible refine NormH.mk ?_
        | with_reducible refine Br.tt ?_
        | with_reducible refine Br.ff ?_
        | with_reducible refine Br.not ?_
        | with_reducible refine Br.and ?_
        | with_reducible refine Br.or ?_
        | with_reducible refine Br.isT (by assumption) ?_
        | with_reducible refine Br.isF (by assumption) ?_
        | with_reducible refine Br.eqSelf ?_
        | with_reducible refine Br.eqTF ?_
        | with_reducible refine Br.eqFT ?_
        | with_reducible refine Br.eqT ?_
        | with_reducible refine Br.eqF ?_
        | with_reducible refine Br.Teq ?_
        | with_reducible refine Br.Feq ?_
        | with_reducible refine Br.beqI ?_
        | with_reducible refine Br.bneI ?_
        | with_reducible refine Br.decT (by omega) ?_
        | with_reducible refine Br.decF (by omega) ?_
        | with_reducible refine Br.dec (fun h => ?_) (fun h => ?_)
        | with_reducible refine Br.mk (fun h => ?_) (fun h => ?_)
        | with_reducible refine Side.mk (by omega) ?_
        | with_reducible refine Side.mk (by assumption) ?_
        | with_reducible refine Side.mk rfl ?_
        | refine Side.mk (by exact rfl) ?_
        | with_reducible refine Alt.l (Side.mk (by omega) ?_)
        | with_reducible refine Alt.l (Side.mk (by refine ⟨rfl, ?_⟩; simp only [List.length_cons, List.length_nil]; omega) ?_)
        | refine Alt.l (Side.mk rfl ?_)
        | with_reducible refine Alt.r (Side.mk (by omega) ?_)
        | with_reducible refine Ovf.ok (by unfold inI64; omega) ?_
        | with_reducible refine Ovf.ok (inK64_u8 _) ?_
        | with_reducible refine Ovf.ok (by simp only [inK, decide_eq_true_eq]; omega) ?_
        | with_reducible apply DrawF.mk
        | with_reducible refine ForH.mk (fun _ => ?_)
        | with_reducible apply DrawR.mk
        | with_reducible apply DrawE.mk
        | with_reducible refine Stop.mk (AWP.drawM [] mixed (by kernel_rfl) ?_)
        | with_reducible exact Abs.Fin.mk ⟨rfl, rfl⟩
        | with_reducible refine Abs.Fin.mk ?_
        | refine CallA.pu (spec_dcTiles n d1 d2) rfl rfl ?_
        | refine CallA.pu (spec_dcChoose (tilesN n) k b4) rfl rfl ?_
        | refine CallA.pu (spec_dcChoose (tilesN n - n - 1) k (by omega)) rfl rfl ?_
        | refine CallA.pu this rfl rfl ?_
        | with_reducible refine BackK.mk ?_
        | with_reducible refine Stop.b ?_
        | with_reducible refine CallA.b ?_))
    rw [h]; exact Tells.eq rfl rfl
  · rw [h]; exact Tells.eq rfl rfl

end Go.Proofs.Ytpignhcdfioldaa
