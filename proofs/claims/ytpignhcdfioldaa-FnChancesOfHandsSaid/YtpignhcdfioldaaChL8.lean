import Derived.Test.YtpignhcdfioldaaChL7

set_option autoImplicit false
set_option maxRecDepth 100000
namespace Go.Proofs.Ytpignhcdfioldaa
open Go Go.Abs

/-- How many hands of k tiles have the sum. -/
def cnt (n k s : Int) : Int := cntT (setN n.toNat) k.toNat s.toNat

def inPips (n k s : Int) : Bool := inDraw n k && decide (0 ≤ s ∧ s ≤ 1000)
theorem inPips_iff {n k m : Int} : inPips n k m = true ↔ inDraw n k = true ∧ 0 ≤ m ∧ m ≤ 1000 := by unfold inPips; rw [Bool.and_eq_true, decide_eq_true_iff]
theorem inPips_f1 {n k m : Int} (h : inDraw n k = false) : inPips n k m = false := by unfold inPips; rw [h]; rfl
theorem inPips_f2 {n k m : Int} (h : ¬ (0 ≤ m ∧ m ≤ 1000)) : inPips n k m = false := by unfold inPips; rw [decide_eq_false h, Bool.and_false]

theorem impl_withPips' {n k : Int} (h0 : 0 ≤ n) (h1 : n ≤ 6) (h2 : 0 ≤ k) (h3 : k ≤ 28) : Pu C F.impl_withPips [.int .i64 n, .int .i64 k] (.isl .int (tabl 1001 (cntT (setN n.toNat) k.toNat))) := by
  have := impl_withPips n.toNat k.toNat (by omega) (by omega)
  rwa [show ((n.toNat : Nat) : Int) = n by omega, show ((k.toNat : Nat) : Int) = k by omega] at this
theorem spec_dcPips' {n k : Int} (h0 : 0 ≤ n) (h1 : n ≤ 6) (h2 : 0 ≤ k) (h3 : k ≤ 28) : Pu C F.spec_dcPips [.int .i64 n, .int .i64 k] (.isl .int (tabl (sumP (setN n.toNat) + 1) (cntT (setN n.toNat) k.toNat))) := by
  have := spec_dcPips n.toNat k.toNat (by omega) (by omega)
  rwa [show ((n.toNat : Nat) : Int) = n by omega, show ((k.toNat : Nat) : Int) = k by omega] at this

theorem impl_CountWithPips (n k s : Int) : Pu C F.impl_CountWithPips [.int .i64 n, .int .i64 k, .int .i64 s] (IB (ifZ (inPips n k s) (cnt n k s)) (inPips n k s)) := by
  refine pu_of Try.func25 rfl rfl rfl ?_
  try with_reducible refine CallB.mk ?_
  (repeat' ((conv => whnf); first
      | with_reducible refine RunM.go ?_
      | with_reducible refine AwM.go ?_
      | with_reducible refine DrawM.go ?_
      | refine NormH.go rfl ?_
      | with_reducible refine NormH.mk ?_
      | with_reducible refine Br.tt ?_
      | with_reducible refine Br.ff ?_
      | with_reducible refine Br.not ?_
      | with_reducible refine Br.and ?_
      | with_reducible refine Br.or ?_
      | with_reducible refine Br.isT (by assumption) ?_
      | with_reducible refine Br.isF (by assumption) ?_
      | with_reducible refine Br.eqSelf ?_
      | with_reducible refine Br.eqTF ?_
      | with_reducible refine Br.eqFT ?_
      | with_reducible refine Br.eqT ?_
      | with_reducible refine Br.eqF ?_
      | with_reducible refine Br.Teq ?_
      | with_reducible refine Br.Feq ?_
      | with_reducible refine Br.beqI ?_
      | with_reducible refine Br.bneI ?_
      | with_reducible refine Br.decT (by omega) ?_
      | with_reducible refine Br.decF (by omega) ?_
      | with_reducible refine Br.dec (fun h => ?_) (fun h => ?_)
      | with_reducible refine Br.mk (fun h => ?_) (fun h => ?_)
      | with_reducible refine Side.mk (by omega) ?_
      | with_reducible refine Side.mk (by assumption) ?_
      | with_reducible refine Side.mk rfl ?_
      | refine Side.mk (by exact rfl) ?_
      | with_reducible refine Alt.l (Side.mk (by omega) ?_)
      | with_reducible refine Alt.l (Side.mk (by refine ⟨rfl, ?_⟩; simp only [List.length_cons, List.length_nil]; omega) ?_)
      | refine Alt.l (Side.mk rfl ?_)
      | with_reducible refine Alt.r (Side.mk (by omega) ?_)
      | with_reducible refine Ovf.ok (by unfold inI64; omega) ?_
      | with_reducible refine Ovf.ok (inK64_u8 _) ?_
      | with_reducible refine Ovf.ok (by simp only [inK, decide_eq_true_eq]; omega) ?_
      | with_reducible apply DrawF.mk
      | with_reducible refine ForH.mk (fun _ => ?_)
      | with_reducible apply DrawR.mk
      | with_reducible apply DrawE.mk
      | with_reducible refine Stop.mk (AWP.drawM [] mixed (by kernel_rfl) ?_)
      | with_reducible exact Abs.Fin.mk ⟨rfl, rfl⟩
      | with_reducible refine Abs.Fin.mk ?_
      | refine CallA.pr (impl_isDrawn n k) rfl ?_; rintro _ ⟨t, rfl, ht⟩
      | refine CallA.pu (impl_isSum s) rfl rfl ?_
      | with_reducible refine BackK.mk ?_
      | with_reducible refine Stop.b ?_
      | with_reducible refine CallA.b ?_))
  · rename_i hd
    obtain ⟨d1, d2, d3, d4⟩ := inDraw_iff.1 hd
    obtain ⟨b1, b2, b3, b4⟩ := tilesN_b d1 d2
    have l : s.toNat < (tabl 1001 (cntT (setN n.toNat) k.toNat)).length := by rw [tabl_len]; omega
    try with_reducible refine CallB.mk ?_
    (repeat' ((conv => whnf); first
        | with_reducible refine RunM.go ?_
        | with_reducible refine AwM.go ?_
        | with_reducible refine DrawM.go ?_
        | refine NormH.go rfl ?_
        | with_reducible refine NormH.mk ?_
        | with_reducible refine Br.tt ?_
        | with_reducible refine Br.ff ?_
        | with_reducible refine Br.not ?_
        | with_reducible refine Br.and ?_
        | with_reducible refine Br.or ?_
        | with_reducible refine Br.isT (by assumption) ?_
        | with_reducible refine Br.isF (by assumption) ?_
        | with_reducible refine Br.eqSelf ?_
        | with_reducible refine Br.eqTF ?_
        | with_reducible refine Br.eqFT ?_
        | with_reducible refine Br.eqT ?_
        | with_reducible refine Br.eqF ?_
        | with_reducible refine Br.Teq ?_
        | with_reducible refine Br.Feq ?_
        | with_reducible refine Br.beqI ?_
        | with_reducible refine Br.bneI ?_
        | with_reducible refine Br.decT (by omega) ?_
        | with_reducible refine Br.decF (by omega) ?_
        | with_reducible refine Br.dec (fun h => ?_) (fun h => ?_)
        | with_reducible refine Br.mk (fun h => ?_) (fun h => ?_)
        | with_reducible refine Side.mk (by omega) ?_
        | with_reducible refine Side.mk (by assumption) ?_
        | with_reducible refine Side.mk rfl ?_
        | refine Side.mk (by exact rfl) ?_
        | with_reducible refine Alt.l (Side.mk (by omega) ?_)
        | with_reducible refine Alt.l (Side.mk (by refine ⟨rfl, ?_⟩; simp only [List.length_cons, List.length_nil]; omega) ?_)
        | refine Alt.l (Side.mk rfl ?_)
        | with_reducible refine Alt.r (Side.mk (by omega) ?_)
        | with_reducible refine Ovf.ok (by unfold inI64; omega) ?_
        | with_reducible refine Ovf.ok (inK64_u8 _) ?_
        | with_reducible refine Ovf.ok (by simp only [inK, decide_eq_true_eq]; omega) ?_
        | with_reducible apply DrawF.mk
        | with_reducible refine ForH.mk (fun _ => ?_)
        | with_reducible apply DrawR.mk
        | with_reducible apply DrawE.mk
        | with_reducible refine Stop.mk (AWP.drawM [] mixed (by kernel_rfl) ?_)
        | with_reducible exact Abs.Fin.mk ⟨rfl, rfl⟩
        | with_reducible refine Abs.Fin.mk ?_
        | refine CallA.pu (impl_withPips' d1 d2 d3 (by omega)) rfl rfl ?_
        | with_reducible refine BackK.mk ?_
        | with_reducible refine Stop.b ?_
        | with_reducible refine CallA.b ?_))
    rw [inPips_iff.2 ⟨hd, by omega, by omega⟩]
    refine Tells.eq ?_ rfl
    show AV.tup [.int .i64 ((tabl 1001 (cntT (setN n.toNat) k.toNat)).getD s.toNat 0), .bool true] = _
    rw [tabl_at (by omega)]; rfl
  · rw [inPips_f2 (by assumption)]; exact Tells.eq rfl rfl
  · rw [inPips_f1 (by assumption)]; exact Tells.eq rfl rfl

theorem impl_LikeliestPips (n k : Int) : Pr C F.impl_LikeliestPips [.int .i64 n, .int .i64 k] fun v => ∃ i : Int, v = IB i (inDraw n k) ∧ (inDraw n k = false → i = 0) ∧ (inDraw n k = true →
    ∃ m : Nat, i = m ∧ m < 1001 ∧ (∀ s : Nat, s < 1001 → cnt n k s ≤ cnt n k m) ∧ ∀ s : Nat, s < m → cnt n k s < cnt n k m) := by
  refine pr_of Try.func18 rfl rfl rfl ?_
  try with_reducible refine CallB.mk ?_
  (repeat' ((conv => whnf); first
      | with_reducible refine RunM.go ?_
      | with_reducible refine AwM.go ?_
      | with_reducible refine DrawM.go ?_
      | refine NormH.go rfl ?_
      | with_reducible refine NormH.mk ?_
      | with_reducible refine Br.tt ?_
      | with_reducible refine Br.ff ?_
      | with_reducible refine Br.not ?_
      | with_reducible refine Br.and ?_
      | with_reducible refine Br.or ?_
      | with_reducible refine Br.isT (by assumption) ?_
      | with_reducible refine Br.isF (by assumption) ?_
      | with_reducible refine Br.eqSelf ?_
      | with_reducible refine Br.eqTF ?_
      | with_reducible refine Br.eqFT ?_
      | with_reducible refine Br.eqT ?_
      | with_reducible refine Br.eqF ?_
      | with_reducible refine Br.Teq ?_
      | with_reducible refine Br.Feq ?_
      | with_reducible refine Br.beqI ?_
      | with_reducible refine Br.bneI ?_
      | with_reducible refine Br.decT (by omega) ?_
      | with_reducible refine Br.decF (by omega) ?_
      | with_reducible refine Br.dec (fun h => ?_) (fun h => ?_)
      | with_reducible refine Br.mk (fun h => ?_) (fun h => ?_)
      | with_reducible refine Side.mk (by omega) ?_
      | with_reducible refine Side.mk (by assumption) ?_
      | with_reducible refine Side.mk rfl ?_
      | refine Side.mk (by exact rfl) ?_
      | with_reducible refine Alt.l (Side.mk (by omega) ?_)
      | with_reducible refine Alt.l (Side.mk (by refine ⟨rfl, ?_⟩; simp only [List.length_cons, List.length_nil]; omega) ?_)
      | refine Alt.l (Side.mk rfl ?_)
      | with_reducible refine Alt.r (Side.mk (by omega) ?_)
      | with_reducible refine Ovf.ok (by unfold inI64; omega) ?_
      | with_reducible refine Ovf.ok (inK64_u8 _) ?_
      | with_reducible refine Ovf.ok (by simp only [inK, decide_eq_true_eq]; omega) ?_
      | with_reducible apply DrawF.mk
      | with_reducible refine ForH.mk (fun _ => ?_)
      | with_reducible apply DrawR.mk
      | with_reducible apply DrawE.mk
      | with_reducible refine Stop.mk (AWP.drawM [] mixed (by kernel_rfl) ?_)
      | with_reducible exact Abs.Fin.mk ⟨rfl, rfl⟩
      | with_reducible refine Abs.Fin.mk ?_
      | refine CallA.pr (impl_isDrawn n k) rfl ?_; rintro _ ⟨t, rfl, ht⟩
      | with_reducible refine BackK.mk ?_
      | with_reducible refine Stop.b ?_
      | with_reducible refine CallA.b ?_))
  · have hd := h
    obtain ⟨d1, d2, d3, d4⟩ := inDraw_iff.1 hd
    obtain ⟨b1, b2, b3, b4⟩ := tilesN_b d1 d2
    obtain ⟨f, hf⟩ : ∃ f, cntT (setN n.toNat) k.toNat = f := ⟨_, rfl⟩
    have hc : ∀ s : Nat, cnt n k s = f s := fun s => by unfold cnt; rw [hf]; rfl
    have hw := impl_withPips' d1 d2 d3 (by omega)
    rw [hf] at hw
    have hl : (tabl 1001 f).length = 1001 := tabl_len
    try with_reducible refine CallB.mk ?_
    (repeat' ((conv => whnf); first
        | with_reducible refine RunM.go ?_
        | with_reducible refine AwM.go ?_
        | with_reducible refine DrawM.go ?_
        | refine NormH.go rfl ?_
        | with_reducible refine NormH.mk ?_
        | with_reducible refine Br.tt ?_
        | with_reducible refine Br.ff ?_
        | with_reducible refine Br.not ?_
        | with_reducible refine Br.and ?_
        | with_reducible refine Br.or ?_
        | with_reducible refine Br.isT (by assumption) ?_
        | with_reducible refine Br.isF (by assumption) ?_
        | with_reducible refine Br.eqSelf ?_
        | with_reducible refine Br.eqTF ?_
        | with_reducible refine Br.eqFT ?_
        | with_reducible refine Br.eqT ?_
        | with_reducible refine Br.eqF ?_
        | with_reducible refine Br.Teq ?_
        | with_reducible refine Br.Feq ?_
        | with_reducible refine Br.beqI ?_
        | with_reducible refine Br.bneI ?_
        | with_reducible refine Br.decT (by omega) ?_
        | with_reducible refine Br.decF (by omega) ?_
        | with_reducible refine Br.dec (fun h => ?_) (fun h => ?_)
        | with_reducible refine Br.mk (fun h => ?_) (fun h => ?_)
        | with_reducible refine Side.mk (by omega) ?_
        | with_reducible refine Side.mk (by assumption) ?_
        | with_reducible refine Side.mk rfl ?_
        | refine Side.mk (by exact rfl) ?_
        | with_reducible refine Alt.l (Side.mk (by omega) ?_)
        | with_reducible refine Alt.l (Side.mk (by refine ⟨rfl, ?_⟩; simp only [List.length_cons, List.length_nil]; omega) ?_)
        | refine Alt.l (Side.mk rfl ?_)
        | with_reducible refine Alt.r (Side.mk (by omega) ?_)
        | with_reducible refine Ovf.ok (by unfold inI64; omega) ?_
        | with_reducible refine Ovf.ok (inK64_u8 _) ?_
        | with_reducible refine Ovf.ok (by simp only [inK, decide_eq_true_eq]; omega) ?_
        | with_reducible apply DrawF.mk
        | with_reducible refine ForH.mk (fun _ => ?_)
        | with_reducible apply DrawR.mk
        | with_reducible apply DrawE.mk
        | with_reducible refine Stop.mk (AWP.drawM [] mixed (by kernel_rfl) ?_)
        | with_reducible exact Abs.Fin.mk ⟨rfl, rfl⟩
        | with_reducible refine Abs.Fin.mk ?_
        | refine CallA.pu hw rfl rfl ?_
        | refine CallA.pr (slices_Max (tabl 1001 f) (by omega) (by omega)) rfl ?_; rintro _ ⟨mx, rfl, hm1, hm2⟩
        | refine CallA.pr (slices_Index (tabl 1001 f) _ (by omega)) rfl ?_; rintro _ ⟨ix, rfl, hix⟩
        | with_reducible refine BackK.mk ?_
        | with_reducible refine Stop.b ?_
        | with_reducible refine CallA.b ?_))
    refine ⟨_, .closed _ rfl, ix, by rw [hd]; rfl, fun q => (by rw [hd] at q; cases q), fun _ => ?_⟩
    have hle : ∀ s, s < 1001 → f s ≤ mx := fun s hs => by
      have := hm2 ((tabl 1001 f).getD s 0) (by rw [List.getD_eq_getElem?_getD, List.getElem?_eq_getElem (by omega)]; exact List.getElem_mem _)
      rwa [tabl_at hs] at this
    rcases hix with ⟨m, rfl, h1, h2, h3⟩ | ⟨rfl, h1⟩
    · rw [hl] at h1
      rw [tabl_at h1] at h2
      refine ⟨m, rfl, h1, fun s hs => by rw [hc, hc, h2]; exact hle s hs, fun s hs => ?_⟩
      rw [hc, hc, h2]
      have h4 := h3 s hs
      rw [tabl_at (by omega)] at h4
      have := hle s (by omega)
      omega
    · exfalso
      obtain ⟨j, hj, e⟩ := List.mem_iff_getElem.1 hm1
      have := h1 j hj
      rw [List.getD_eq_getElem?_getD, List.getElem?_eq_getElem hj] at this
      exact this e
  · have hd := h
    exact ⟨_, .closed _ rfl, 0, by rw [hd]; rfl, fun _ => rfl, fun q => (by rw [hd] at q; cases q)⟩

theorem spec_LikeliestPips (n k : Int) : Pr C F.spec_LikeliestPips [.int .i64 n, .int .i64 k] fun v => ∃ i : Int, v = IB i (inDraw n k) ∧ (inDraw n k = false → i = 0) ∧ (inDraw n k = true →
    ∃ m : Nat, i = m ∧ m < sumP (setN n.toNat) + 1 ∧ (∀ s : Nat, s < sumP (setN n.toNat) + 1 → cnt n k s ≤ cnt n k m) ∧ ∀ s : Nat, s < m → cnt n k s < cnt n k m) := by
  refine pr_of Try.func19 rfl rfl rfl ?_
  try with_reducible refine CallB.mk ?_
  (repeat' ((conv => whnf); first
      | with_reducible refine RunM.go ?_
      | with_reducible refine AwM.go ?_
      | with_reducible refine DrawM.go ?_
      | refine NormH.go rfl ?_
      | with_reducible refine NormH.mk ?_
      | with_reducible refine Br.tt ?_
      | with_reducible refine Br.ff ?_
      | with_reducible refine Br.not ?_
      | with_reducible refine Br.and ?_
      | with_reducible refine Br.or ?_
      | with_reducible refine Br.isT (by assumption) ?_
      | with_reducible refine Br.isF (by assumption) ?_
      | with_reducible refine Br.eqSelf ?_
      | with_reducible refine Br.eqTF ?_
      | with_reducible refine Br.eqFT ?_
      | with_reducible refine Br.eqT ?_
      | with_reducible refine Br.eqF ?_
      | with_reducible refine Br.Teq ?_
      | with_reducible refine Br.Feq ?_
      | with_reducible refine Br.beqI ?_
      | with_reducible refine Br.bneI ?_
      | with_reducible refine Br.decT (by omega) ?_
      | with_reducible refine Br.decF (by omega) ?_
      | with_reducible refine Br.dec (fun h => ?_) (fun h => ?_)
      | with_reducible refine Br.mk (fun h => ?_) (fun h => ?_)
      | with_reducible refine Side.mk (by omega) ?_
      | with_reducible refine Side.mk (by assumption) ?_
      | with_reducible refine Side.mk rfl ?_
      | refine Side.mk (by exact rfl) ?_
      | with_reducible refine Alt.l (Side.mk (by omega) ?_)
      | with_reducible refine Alt.l (Side.mk (by refine ⟨rfl, ?_⟩; simp only [List.length_cons, List.length_nil]; omega) ?_)
      | refine Alt.l (Side.mk rfl ?_)
      | with_reducible refine Alt.r (Side.mk (by omega) ?_)
      | with_reducible refine Ovf.ok (by unfold inI64; omega) ?_
      | with_reducible refine Ovf.ok (inK64_u8 _) ?_
      | with_reducible refine Ovf.ok (by simp only [inK, decide_eq_true_eq]; omega) ?_
      | with_reducible apply DrawF.mk
      | with_reducible refine ForH.mk (fun _ => ?_)
      | with_reducible apply DrawR.mk
      | with_reducible apply DrawE.mk
      | with_reducible refine Stop.mk (AWP.drawM [] mixed (by kernel_rfl) ?_)
      | with_reducible exact Abs.Fin.mk ⟨rfl, rfl⟩
      | with_reducible refine Abs.Fin.mk ?_
      | refine CallA.pu (spec_dcGood n k) rfl rfl ?_
      | with_reducible refine BackK.mk ?_
      | with_reducible refine Stop.b ?_
      | with_reducible refine CallA.b ?_))
  · have hd := h
    obtain ⟨d1, d2, d3, d4⟩ := inDraw_iff.1 hd
    obtain ⟨b1, b2, b3, b4⟩ := tilesN_b d1 d2
    obtain ⟨f, hf⟩ : ∃ f, cntT (setN n.toNat) k.toNat = f := ⟨_, rfl⟩
    have hc : ∀ s : Nat, cnt n k s = f s := fun s => by unfold cnt; rw [hf]; rfl
    have hw := spec_dcPips' d1 d2 d3 (show k ≤ 28 by omega)
    rw [hf] at hw
    obtain ⟨M, hM⟩ : ∃ M, sumP (setN n.toNat) + 1 = M := ⟨_, rfl⟩
    rw [hM] at hw ⊢
    have hl : (tabl M f).length = M := tabl_len
    try with_reducible refine CallB.mk ?_
    (repeat' ((conv => whnf); first
        | with_reducible refine RunM.go ?_
        | with_reducible refine AwM.go ?_
        | with_reducible refine DrawM.go ?_
        | refine NormH.go rfl ?_
        | with_reducible refine NormH.mk ?_
        | with_reducible refine Br.tt ?_
        | with_reducible refine Br.ff ?_
        | with_reducible refine Br.not ?_
        | with_reducible refine Br.and ?_
        | with_reducible refine Br.or ?_
        | with_reducible refine Br.isT (by assumption) ?_
        | with_reducible refine Br.isF (by assumption) ?_
        | with_reducible refine Br.eqSelf ?_
        | with_reducible refine Br.eqTF ?_
        | with_reducible refine Br.eqFT ?_
        | with_reducible refine Br.eqT ?_
        | with_reducible refine Br.eqF ?_
        | with_reducible refine Br.Teq ?_
        | with_reducible refine Br.Feq ?_
        | with_reducible refine Br.beqI ?_
        | with_reducible refine Br.bneI ?_
        | with_reducible refine Br.decT (by omega) ?_
        | with_reducible refine Br.decF (by omega) ?_
        | with_reducible refine Br.dec (fun h => ?_) (fun h => ?_)
        | with_reducible refine Br.mk (fun h => ?_) (fun h => ?_)
        | with_reducible refine Side.mk (by omega) ?_
        | with_reducible refine Side.mk (by assumption) ?_
        | with_reducible refine Side.mk rfl ?_
        | refine Side.mk (by exact rfl) ?_
        | with_reducible refine Alt.l (Side.mk (by omega) ?_)
        | with_reducible refine Alt.l (Side.mk (by refine ⟨rfl, ?_⟩; simp only [List.length_cons, List.length_nil]; omega) ?_)
        | refine Alt.l (Side.mk rfl ?_)
        | with_reducible refine Alt.r (Side.mk (by omega) ?_)
        | with_reducible refine Ovf.ok (by unfold inI64; omega) ?_
        | with_reducible refine Ovf.ok (inK64_u8 _) ?_
        | with_reducible refine Ovf.ok (by simp only [inK, decide_eq_true_eq]; omega) ?_
        | with_reducible apply DrawF.mk
        | with_reducible refine ForH.mk (fun _ => ?_)
        | with_reducible apply DrawR.mk
        | with_reducible apply DrawE.mk
        | with_reducible refine Stop.mk (AWP.drawM [] mixed (by kernel_rfl) ?_)
        | with_reducible exact Abs.Fin.mk ⟨rfl, rfl⟩
        | with_reducible refine Abs.Fin.mk ?_
        | refine CallA.pu hw rfl rfl ?_
        | with_reducible refine BackK.mk ?_
        | with_reducible refine Stop.b ?_
        | with_reducible refine CallA.b ?_))
    have hM0 : 0 < M := by omega
    have hM1 : M ≤ 1000000 := by
      rw [← hM]
      have : ∀ n : Nat, n ≤ 6 → sumP (setN n) < 1000000 := by decide
      have := this n.toNat (by omega)
      omega
    refine .mk <| AWP.loop (α := Nat × Nat) (fun s => s.1 ≤ M ∧ s.2 < M ∧ (∀ x : Nat, x < s.1 → f x ≤ f s.2) ∧ ∀ x : Nat, x < s.2 → f x < f s.2) (fun s => [(6, .int .i64 s.2), (7, .isl .int (tabl M f)), (17, .isl .int (tabl M f)), (18, .int .i64 (tabl M f).length), (19, .int .i64 s.1)]) (fun s => []) (fun s => M - s.1) (0, 0)
      ⟨Nat.zero_le _, hM0, fun x hx => absurd hx (Nat.not_lt_zero x), fun x hx => absurd hx (Nat.not_lt_zero x)⟩ ⟨rfl, rfl, rfl, rfl, rfl, trivial⟩ rfl ?_
    rintro ⟨i, b⟩ ⟨i1, i2, i3, i4⟩ -
    dsimp only at i1 i2 i3 i4 ⊢
    refine AwM.out (C := C) ?_
    have g1 : i < M → (tabl M f).getD ((i : Int)).toNat (dflt U.int) = f i := fun hi => tabl_at hi
    have g2 : (tabl M f).getD ((b : Int)).toNat (dflt U.int) = f b := tabl_at i2
    try with_reducible refine CallB.mk ?_
    (repeat' ((conv => whnf); first
        | with_reducible refine RunM.go ?_
        | with_reducible refine AwM.go ?_
        | with_reducible refine DrawM.go ?_
        | refine NormH.go rfl ?_
        | with_reducible refine NormH.mk ?_
        | with_reducible refine Br.tt ?_
        | with_reducible refine Br.ff ?_
        | with_reducible refine Br.not ?_
        | with_reducible refine Br.and ?_
        | with_reducible refine Br.or ?_
        | with_reducible refine Br.isT (by assumption) ?_
        | with_reducible refine Br.isF (by assumption) ?_
        | with_reducible refine Br.eqSelf ?_
        | with_reducible refine Br.eqTF ?_
        | with_reducible refine Br.eqFT ?_
        | with_reducible refine Br.eqT ?_
        | with_reducible refine Br.eqF ?_
        | with_reducible refine Br.Teq ?_
        | with_reducible refine Br.Feq ?_
        | with_reducible refine Br.beqI ?_
        | with_reducible refine Br.bneI ?_
        | with_reducible refine Br.decT (by omega) ?_
        | with_reducible refine Br.decF (by omega) ?_
        | with_reducible refine Br.dec (fun h => ?_) (fun h => ?_)
        | with_reducible refine Br.mk (fun h => ?_) (fun h => ?_)
        | with_reducible refine Side.mk (by omega) ?_
        | with_reducible refine Side.mk (by assumption) ?_
        | with_reducible refine Side.mk rfl ?_
        | refine Side.mk (by exact rfl) ?_
        | with_reducible refine Alt.l (Side.mk (by omega) ?_)
        | with_reducible refine Alt.l (Side.mk (by refine ⟨rfl, ?_⟩; simp only [List.length_cons, List.length_nil]; omega) ?_)
        | refine Alt.l (Side.mk rfl ?_)
        | with_reducible refine Alt.r (Side.mk (by omega) ?_)
        | with_reducible refine Ovf.ok (by unfold inI64; omega) ?_
        | with_reducible refine Ovf.ok (inK64_u8 _) ?_
        | with_reducible refine Ovf.ok (by simp only [inK, decide_eq_true_eq]; omega) ?_
        | with_reducible apply DrawF.mk
        | with_reducible refine ForH.mk (fun _ => ?_)
        | with_reducible apply DrawR.mk
        | with_reducible apply DrawE.mk
        | with_reducible refine Stop.mk (AWP.drawM [] mixed (by kernel_rfl) ?_)
        | with_reducible exact Abs.Fin.mk ⟨rfl, rfl⟩
        | with_reducible refine Abs.Fin.mk ?_
        | with_reducible refine BackK.mk ?_
        | with_reducible refine Stop.b ?_
        | with_reducible refine CallA.b ?_))
    · have hil : i < M := by omega
      have g1 := g1 hil
      rw [g1, g2] at h
      refine ⟨(i + 1, i), ⟨by show i + 1 ≤ M; omega, hil, fun x hx => ?_, fun x hx => ?_⟩, by show M - (i + 1) < M - i; omega, ⟨rfl, rfl, rfl, rfl, rfl, trivial⟩, rfl, Nat.le_refl _, rfl, rfl⟩
      · show f x ≤ f i
        have hx : x < i + 1 := hx
        rcases Nat.lt_or_ge x i with hlt | hge
        · have := i3 x hlt; omega
        · have : x = i := by omega
          subst this; exact Int.le_refl _
      · show f x < f i
        have := i3 x hx; omega
    · have hil : i < M := by omega
      have g1 := g1 hil
      rw [g1, g2] at h
      refine ⟨(i + 1, b), ⟨by show i + 1 ≤ M; omega, i2, fun x hx => ?_, i4⟩, by show M - (i + 1) < M - i; omega, ⟨rfl, rfl, rfl, rfl, rfl, trivial⟩, rfl, Nat.le_refl _, rfl, rfl⟩
      show f x ≤ f b
      have hx : x < i + 1 := hx
      rcases Nat.lt_or_ge x i with hlt | hge
      · exact i3 x hlt
      · have : x = i := by omega
        subst this; omega
    · have hil : i = M := by omega
      subst hil
      exact ⟨_, .closed _ rfl, b, by rw [hd]; rfl, fun q => (by rw [hd] at q; cases q), fun _ => ⟨b, rfl, i2, fun s hs => by rw [hc, hc]; exact i3 s hs, fun s hs => by rw [hc, hc]; exact i4 s hs⟩⟩
  · have hd := h
    exact ⟨_, .closed _ rfl, 0, by rw [hd]; rfl, fun _ => rfl, fun q => (by rw [hd] at q; cases q)⟩

theorem impl_ChanceOfPips (n k s : Int) (hb : ∀ n k s, inDraw n k = true → 0 ≤ cnt n k s ∧ cnt n k s ≤ 562949953421312) : Pu C F.impl_ChanceOfPips [.int .i64 n, .int .i64 k, .int .i64 s] (RF (inPips n k s) (cnt n k s).toNat (cho (tilesN n) k)) := by
  refine pu_of Try.func26 rfl rfl rfl ?_
  have hc := impl_CountWithPips n k s
  cases h : inPips n k s with
  | false =>
    rw [h] at hc
    try with_reducible refine CallB.mk ?_
    (repeat' ((conv => whnf); first
        | with_reducible refine RunM.go ?_
        | with_reducible refine AwM.go ?_
        | with_reducible refine DrawM.go ?_
        | refine NormH.go rfl ?_
        | with_reducible refine NormH.mk ?_
        | with_reducible refine Br.tt ?_
        | with_reducible refine Br.ff ?_
        | with_reducible refine Br.not ?_
        | with_reducible refine Br.and ?_
        | with_reducible refine Br.or ?_
        | with_reducible refine Br.isT (by assumption) ?_
        | with_reducible refine Br.isF (by assumption) ?_
        | with_reducible refine Br.eqSelf ?_
        | with_reducible refine Br.eqTF ?_
        | with_reducible refine Br.eqFT ?_
        | with_reducible refine Br.eqT ?_
        | with_reducible refine Br.eqF ?_
        | with_reducible refine Br.Teq ?_
        | with_reducible refine Br.Feq ?_
        | with_reducible refine Br.beqI ?_
        | with_reducible refine Br.bneI ?_
        | with_reducible refine Br.decT (by omega) ?_
        | with_reducible refine Br.decF (by omega) ?_
        | with_reducible refine Br.dec (fun h => ?_) (fun h => ?_)
        | with_reducible refine Br.mk (fun h => ?_) (fun h => ?_)
        | with_reducible refine Side.mk (by omega) ?_
        | with_reducible refine Side.mk (by assumption) ?_
        | with_reducible refine Side.mk rfl ?_
        | refine Side.mk (by exact rfl) ?_
        | with_reducible refine Alt.l (Side.mk (by omega) ?_)
        | with_reducible refine Alt.l (Side.mk (by refine ⟨rfl, ?_⟩; simp only [List.length_cons, List.length_nil]; omega) ?_)
        | refine Alt.l (Side.mk rfl ?_)
        | with_reducible refine Alt.r (Side.mk (by omega) ?_)
        | with_reducible refine Ovf.ok (by unfold inI64; omega) ?_
        | with_reducible refine Ovf.ok (inK64_u8 _) ?_
        | with_reducible refine Ovf.ok (by simp only [inK, decide_eq_true_eq]; omega) ?_
        | with_reducible apply DrawF.mk
        | with_reducible refine ForH.mk (fun _ => ?_)
        | with_reducible apply DrawR.mk
        | with_reducible apply DrawE.mk
        | with_reducible refine Stop.mk (AWP.drawM [] mixed (by kernel_rfl) ?_)
        | with_reducible exact Abs.Fin.mk ⟨rfl, rfl⟩
        | with_reducible refine Abs.Fin.mk ?_
        | refine CallA.pu hc rfl rfl ?_
        | with_reducible refine BackK.mk ?_
        | with_reducible refine Stop.b ?_
        | with_reducible refine CallA.b ?_))
    all_goals exact Tells.eq rfl rfl
  | true =>
    rw [h] at hc
    have hd := (inPips_iff.1 h).1
    obtain ⟨d1, d2, d3, d4⟩ := inDraw_iff.1 hd
    obtain ⟨b1, b2, b3, b4⟩ := tilesN_b d1 d2
    have hh := impl_CountHands n k
    rw [hd] at hh
    have hcb := (cho_b (n := tilesN n) (k := k) (by omega) b4)
    have hcp := hcb.2 d3 d4
    have hcc := hb n k s hd
    have hr := impl_ratio (cnt n k s).toNat (cho (tilesN n) k) (by omega) (by omega) hcp
    rw [show (((cnt n k s).toNat : Nat) : Int) = cnt n k s by omega] at hr
    try with_reducible refine CallB.mk ?_
    (repeat' ((conv => whnf); first
        | with_reducible refine RunM.go ?_
        | with_reducible refine AwM.go ?_
        | with_reducible refine DrawM.go ?_
        | refine NormH.go rfl ?_
        | with_reducible refine NormH.mk ?_
        | with_reducible refine Br.tt ?_
        | with_reducible refine Br.ff ?_
        | with_reducible refine Br.not ?_
        | with_reducible refine Br.and ?_
        | with_reducible refine Br.or ?_
        | with_reducible refine Br.isT (by assumption) ?_
        | with_reducible refine Br.isF (by assumption) ?_
        | with_reducible refine Br.eqSelf ?_
        | with_reducible refine Br.eqTF ?_
        | with_reducible refine Br.eqFT ?_
        | with_reducible refine Br.eqT ?_
        | with_reducible refine Br.eqF ?_
        | with_reducible refine Br.Teq ?_
        | with_reducible refine Br.Feq ?_
        | with_reducible refine Br.beqI ?_
        | with_reducible refine Br.bneI ?_
        | with_reducible refine Br.decT (by omega) ?_
        | with_reducible refine Br.decF (by omega) ?_
        | with_reducible refine Br.dec (fun h => ?_) (fun h => ?_)
        | with_reducible refine Br.mk (fun h => ?_) (fun h => ?_)
        | with_reducible refine Side.mk (by omega) ?_
        | with_reducible refine Side.mk (by assumption) ?_
        | with_reducible refine Side.mk rfl ?_
        | refine Side.mk (by exact rfl) ?_
        | with_reducible refine Alt.l (Side.mk (by omega) ?_)
        | with_reducible refine Alt.l (Side.mk (by refine ⟨rfl, ?_⟩; simp only [List.length_cons, List.length_nil]; omega) ?_)
        | refine Alt.l (Side.mk rfl ?_)
        | with_reducible refine Alt.r (Side.mk (by omega) ?_)
        | with_reducible refine Ovf.ok (by unfold inI64; omega) ?_
        | with_reducible refine Ovf.ok (inK64_u8 _) ?_
        | with_reducible refine Ovf.ok (by simp only [inK, decide_eq_true_eq]; omega) ?_
        | with_reducible apply DrawF.mk
        | with_reducible refine ForH.mk (fun _ => ?_)
        | with_reducible apply DrawR.mk
        | with_reducible apply DrawE.mk
        | with_reducible refine Stop.mk (AWP.drawM [] mixed (by kernel_rfl) ?_)
        | with_reducible exact Abs.Fin.mk ⟨rfl, rfl⟩
        | with_reducible refine Abs.Fin.mk ?_
        | refine CallA.pu hc rfl rfl ?_
        | refine CallA.pu hh rfl rfl ?_
        | refine CallA.pu hr rfl rfl ?_
        | with_reducible refine BackK.mk ?_
        | with_reducible refine Stop.b ?_
        | with_reducible refine CallA.b ?_))
    all_goals exact Tells.eq rfl rfl
end Go.Proofs.Ytpignhcdfioldaa
