import Derived.Test.YtpignhcdfioldaaChL6

set_option autoImplicit false
set_option maxRecDepth 100000
set_option maxHeartbeats 4000000
namespace Go.Proofs.Ytpignhcdfioldaa
open Go Go.Abs

theorem mem_sum {x : Nat} : ∀ {l : List Nat}, x ∈ l → x ≤ l.sum
  | a :: r, h => by
    rw [List.sum_cons]
    cases h with
    | head => omega
    | tail _ h => have := mem_sum h; omega
def sumP (ts : List Ti) : Nat := (ts.map pipsOf).sum

theorem spec_dcPips (n k : Nat) (h1 : n ≤ 6) (h2 : k ≤ 28) : Pu C F.spec_dcPips [.int .i64 n, .int .i64 k] (.isl .int (tabl (sumP (setN n) + 1) (cntT (setN n) k))) := by
  refine pu_of Try.func77 rfl rfl rfl ?_
  have hset : (setN n).length ≤ 49 := by
    have := setP_len n (n + 1)
    have : (n + 1) * (n + 1) ≤ 7 * 7 := Nat.mul_le_mul (by omega) (by omega)
    unfold setN; omega
  have hsum : ∀ j, j ≤ (setN n).length → sumP ((setN n).take j) ≤ 12 * j := by
    intro j
    induction j with
    | zero => intro _; simp [sumP]
    | succ j ih =>
      intro hj
      have := ih (by omega)
      rw [List.take_add_one, List.getElem?_eq_getElem (by omega)]
      have ht := setP_mem (List.getElem_mem (l := setN n) (n := j) (by omega)) (Nat.le_refl _)
      unfold sumP at this ⊢
      rw [List.map_append, List.sum_append]
      simp only [Option.toList, List.map_cons, List.map_nil, List.sum_cons, List.sum_nil]
      have : pipsOf (setN n)[j] ≤ 12 := by unfold pipsOf; omega
      omega
  try with_reducible refine CallB.mk ?_
  (repeat' ((conv => whnf); first
      | with_reducible refine RunM.go ?_
      | with_reducible refine AwM.go ?_
      | with_reducible refine DrawM.go ?_
      | refine NormH.go rfl ?_
      | with_reducible refine NormH.mk ?_
      | with_reducible refine Br.tt ?_
      | with_reducible refine Br.ff ?_
      | with_reducible refine Br.not ?_
      | with_reducible refine Br.and ?_
      | with_reducible refine Br.or ?_
      | with_reducible refine Br.isT (by assumption) ?_
      | with_reducible refine Br.isF (by assumption) ?_
      | with_reducible refine Br.eqSelf ?_
      | with_reducible refine Br.eqTF ?_
      | with_reducible refine Br.eqFT ?_
      | with_reducible refine Br.eqT ?_
      | with_reducible refine Br.eqF ?_
      | with_reducible refine Br.Teq ?_
      | with_reducible refine Br.Feq ?_
      | with_reducible refine Br.beqI ?_
      | with_reducible refine Br.bneI ?_
      | with_reducible refine Br.decT (by omega) ?_
      | with_reducible refine Br.decF (by omega) ?_
      | with_reducible refine Br.dec (fun h => ?_) (fun h => ?_)
      | with_reducible refine Br.mk (fun h => ?_) (fun h => ?_)
      | with_reducible refine Side.mk (by omega) ?_
      | with_reducible refine Side.mk (by assumption) ?_
      | with_reducible refine Side.mk rfl ?_
      | refine Side.mk (by exact rfl) ?_
      | with_reducible refine Alt.l (Side.mk (by omega) ?_)
      | with_reducible refine Alt.l (Side.mk (by refine ⟨rfl, ?_⟩; simp only [List.length_cons, List.length_nil]; omega) ?_)
      | refine Alt.l (Side.mk rfl ?_)
      | with_reducible refine Alt.r (Side.mk (by omega) ?_)
      | with_reducible refine Ovf.ok (by unfold inI64; omega) ?_
      | with_reducible refine Ovf.ok (inK64_u8 _) ?_
      | with_reducible refine Ovf.ok (by simp only [inK, decide_eq_true_eq]; omega) ?_
      | with_reducible apply DrawF.mk
      | with_reducible refine ForH.mk (fun _ => ?_)
      | with_reducible apply DrawR.mk
      | with_reducible apply DrawE.mk
      | with_reducible refine Stop.mk (AWP.drawM [] mixed (by kernel_rfl) ?_)
      | with_reducible exact Abs.Fin.mk ⟨rfl, rfl⟩
      | with_reducible refine Abs.Fin.mk ?_
      | refine CallA.pu (spec_tiSet n (by omega)) rfl rfl ?_
      | refine Alt.r ?_
      | with_reducible refine BackK.mk ?_
      | with_reducible refine Stop.b ?_
      | with_reducible refine CallA.b ?_))
  refine .mk <| AWP.loop (α := Nat) (fun j => j ≤ (setN n).length) (fun j => [(0, .int .i64 n), (1, .int .i64 k), (5, .int .i64 (sumP ((setN n).take j))), (16, .isl .tile (setN n)), (17, .int .i64 (setN n).length), (18, .int .i64 j)]) (fun j => []) (fun j => (setN n).length - j) 0 (Nat.zero_le _) ⟨rfl, rfl, rfl, rfl, rfl, rfl, trivial⟩ rfl ?_
  rintro j hj -
  refine AwM.out (C := C) ?_
  have hs1 := hsum j hj
  rcases Nat.lt_or_ge j (setN n).length with hjl | hjl
  · obtain ⟨t, ht⟩ : ∃ t, (setN n).getD (↑j : Int).toNat (dflt U.tile) = t := ⟨_, rfl⟩
    have ht' : (setN n)[j]? = some t := by
      rw [← ht]
      show _ = some ((setN n).getD j (dflt U.tile))
      rw [List.getD_eq_getElem?_getD, List.getElem?_eq_getElem hjl]; rfl
    obtain ⟨t1, t2, t3⟩ := setP_mem (List.mem_of_getElem? ht') (Nat.le_refl _)
    have hp : ((pipsOf t : Nat) : Int) = t.lo + t.hi := by unfold pipsOf; omega
    have hsucc : sumP ((setN n).take (j + 1)) = sumP ((setN n).take j) + pipsOf t := by
      rw [List.take_add_one, ht']
      unfold sumP
      rw [List.map_append, List.sum_append]
      simp
    try with_reducible refine CallB.mk ?_
    (repeat' ((conv => whnf); first
        | with_reducible refine RunM.go ?_
        | with_reducible refine AwM.go ?_
        | with_reducible refine DrawM.go ?_
        | refine NormH.go rfl ?_
        | with_reducible refine NormH.mk ?_
        | with_reducible refine Br.tt ?_
        | with_reducible refine Br.ff ?_
        | with_reducible refine Br.not ?_
        | with_reducible refine Br.and ?_
        | with_reducible refine Br.or ?_
        | with_reducible refine Br.isT (by assumption) ?_
        | with_reducible refine Br.isF (by assumption) ?_
        | with_reducible refine Br.eqSelf ?_
        | with_reducible refine Br.eqTF ?_
        | with_reducible refine Br.eqFT ?_
        | with_reducible refine Br.eqT ?_
        | with_reducible refine Br.eqF ?_
        | with_reducible refine Br.Teq ?_
        | with_reducible refine Br.Feq ?_
        | with_reducible refine Br.beqI ?_
        | with_reducible refine Br.bneI ?_
        | with_reducible refine Br.decT (by omega) ?_
        | with_reducible refine Br.decF (by omega) ?_
        | with_reducible refine Br.dec (fun h => ?_) (fun h => ?_)
        | with_reducible refine Br.mk (fun h => ?_) (fun h => ?_)
        | with_reducible refine Side.mk (by omega) ?_
        | with_reducible refine Side.mk (by assumption) ?_
        | with_reducible refine Side.mk rfl ?_
        | refine Side.mk (by exact rfl) ?_
        | with_reducible refine Alt.l (Side.mk (by omega) ?_)
        | with_reducible refine Alt.l (Side.mk (by refine ⟨rfl, ?_⟩; simp only [List.length_cons, List.length_nil]; omega) ?_)
        | refine Alt.l (Side.mk rfl ?_)
        | with_reducible refine Alt.r (Side.mk (by omega) ?_)
        | with_reducible refine Ovf.ok (by unfold inI64; omega) ?_
        | with_reducible refine Ovf.ok (inK64_u8 _) ?_
        | with_reducible refine Ovf.ok (by simp only [inK, decide_eq_true_eq]; omega) ?_
        | with_reducible apply DrawF.mk
        | with_reducible refine ForH.mk (fun _ => ?_)
        | with_reducible apply DrawR.mk
        | with_reducible apply DrawE.mk
        | with_reducible refine Stop.mk (AWP.drawM [] mixed (by kernel_rfl) ?_)
        | with_reducible exact Abs.Fin.mk ⟨rfl, rfl⟩
        | with_reducible refine Abs.Fin.mk ?_
        | rw [ht]
        | with_reducible refine BackK.mk ?_
        | with_reducible refine Stop.b ?_
        | with_reducible refine CallA.b ?_))
    refine ⟨j + 1, by show j + 1 ≤ _; omega, by show (setN n).length - (j + 1) < (setN n).length - j; omega, ⟨rfl, rfl, ?_, rfl, rfl, rfl, trivial⟩, rfl, Nat.le_refl _, rfl, rfl⟩
    refine congrArg (fun x => some (AV.int .i64 x)) ?_
    rw [hsucc]
    omega
  have hje : j = (setN n).length := by omega
  subst hje
  rw [List.take_length] at hs1 ⊢
  obtain ⟨most, hmost⟩ : ∃ most, sumP (setN n) = most := ⟨_, rfl⟩
  rw [hmost] at hs1 ⊢
  have hm1 : most ≤ 600 := by omega
  try with_reducible refine CallB.mk ?_
  (repeat' ((conv => whnf); first
      | with_reducible refine RunM.go ?_
      | with_reducible refine AwM.go ?_
      | with_reducible refine DrawM.go ?_
      | refine NormH.go rfl ?_
      | with_reducible refine NormH.mk ?_
      | with_reducible refine Br.tt ?_
      | with_reducible refine Br.ff ?_
      | with_reducible refine Br.not ?_
      | with_reducible refine Br.and ?_
      | with_reducible refine Br.or ?_
      | with_reducible refine Br.isT (by assumption) ?_
      | with_reducible refine Br.isF (by assumption) ?_
      | with_reducible refine Br.eqSelf ?_
      | with_reducible refine Br.eqTF ?_
      | with_reducible refine Br.eqFT ?_
      | with_reducible refine Br.eqT ?_
      | with_reducible refine Br.eqF ?_
      | with_reducible refine Br.Teq ?_
      | with_reducible refine Br.Feq ?_
      | with_reducible refine Br.beqI ?_
      | with_reducible refine Br.bneI ?_
      | with_reducible refine Br.decT (by omega) ?_
      | with_reducible refine Br.decF (by omega) ?_
      | with_reducible refine Br.dec (fun h => ?_) (fun h => ?_)
      | with_reducible refine Br.mk (fun h => ?_) (fun h => ?_)
      | with_reducible refine Side.mk (by omega) ?_
      | with_reducible refine Side.mk (by assumption) ?_
      | with_reducible refine Side.mk rfl ?_
      | refine Side.mk (by exact rfl) ?_
      | with_reducible refine Alt.l (Side.mk (by omega) ?_)
      | with_reducible refine Alt.l (Side.mk (by refine ⟨rfl, ?_⟩; simp only [List.length_cons, List.length_nil]; omega) ?_)
      | refine Alt.l (Side.mk rfl ?_)
      | with_reducible refine Alt.r (Side.mk (by omega) ?_)
      | with_reducible refine Ovf.ok (by unfold inI64; omega) ?_
      | with_reducible refine Ovf.ok (inK64_u8 _) ?_
      | with_reducible refine Ovf.ok (by simp only [inK, decide_eq_true_eq]; omega) ?_
      | with_reducible apply DrawF.mk
      | with_reducible refine ForH.mk (fun _ => ?_)
      | with_reducible apply DrawR.mk
      | with_reducible apply DrawE.mk
      | with_reducible refine Stop.mk (AWP.drawM [] mixed (by kernel_rfl) ?_)
      | with_reducible exact Abs.Fin.mk ⟨rfl, rfl⟩
      | with_reducible refine Abs.Fin.mk ?_
      | refine Alt.r ?_
      | with_reducible refine BackK.mk ?_
      | with_reducible refine Stop.b ?_
      | with_reducible refine CallA.b ?_))
  refine .mk <| AWP.loop (α := Nat) (fun i => i ≤ k + 1) (fun i => [(0, .int .i64 n), (1, .int .i64 k), (5, .int .i64 most), (8, .ref 0 0 (k + 1)), (34, .int .i64 (k + 1)), (35, .int .i64 i)]) (fun i => .rowA (refsT (most + 1) i (k + 1)) :: rowsT (zeroT (most + 1)) i) (fun i => k + 1 - i) 0 (Nat.zero_le _) ⟨rfl, rfl, rfl, rfl, rfl, rfl, trivial⟩ rfl ?_
  rintro i hi -
  refine AwM.out (C := C) ?_
  have hlen := refsT_len (M := most + 1) hi
  try with_reducible refine CallB.mk ?_
  (repeat' ((conv => whnf); first
      | with_reducible refine RunM.go ?_
      | with_reducible refine AwM.go ?_
      | with_reducible refine DrawM.go ?_
      | refine NormH.go rfl ?_
      | with_reducible refine NormH.mk ?_
      | with_reducible refine Br.tt ?_
      | with_reducible refine Br.ff ?_
      | with_reducible refine Br.not ?_
      | with_reducible refine Br.and ?_
      | with_reducible refine Br.or ?_
      | with_reducible refine Br.isT (by assumption) ?_
      | with_reducible refine Br.isF (by assumption) ?_
      | with_reducible refine Br.eqSelf ?_
      | with_reducible refine Br.eqTF ?_
      | with_reducible refine Br.eqFT ?_
      | with_reducible refine Br.eqT ?_
      | with_reducible refine Br.eqF ?_
      | with_reducible refine Br.Teq ?_
      | with_reducible refine Br.Feq ?_
      | with_reducible refine Br.beqI ?_
      | with_reducible refine Br.bneI ?_
      | with_reducible refine Br.decT (by omega) ?_
      | with_reducible refine Br.decF (by omega) ?_
      | with_reducible refine Br.dec (fun h => ?_) (fun h => ?_)
      | with_reducible refine Br.mk (fun h => ?_) (fun h => ?_)
      | with_reducible refine Side.mk (by omega) ?_
      | with_reducible refine Side.mk (by assumption) ?_
      | with_reducible refine Side.mk rfl ?_
      | refine Side.mk (by exact rfl) ?_
      | with_reducible refine Alt.l (Side.mk (by omega) ?_)
      | with_reducible refine Alt.l (Side.mk (by refine ⟨rfl, ?_⟩; simp only [List.length_cons, List.length_nil]; omega) ?_)
      | refine Alt.l (Side.mk rfl ?_)
      | with_reducible refine Alt.r (Side.mk (by omega) ?_)
      | with_reducible refine Ovf.ok (by unfold inI64; omega) ?_
      | with_reducible refine Ovf.ok (inK64_u8 _) ?_
      | with_reducible refine Ovf.ok (by simp only [inK, decide_eq_true_eq]; omega) ?_
      | with_reducible apply DrawF.mk
      | with_reducible refine ForH.mk (fun _ => ?_)
      | with_reducible apply DrawR.mk
      | with_reducible apply DrawE.mk
      | with_reducible refine Stop.mk (AWP.drawM [] mixed (by kernel_rfl) ?_)
      | with_reducible exact Abs.Fin.mk ⟨rfl, rfl⟩
      | with_reducible refine Abs.Fin.mk ?_
      | refine Alt.l ?_
      | with_reducible refine BackK.mk ?_
      | with_reducible refine Stop.b ?_
      | with_reducible refine CallA.b ?_))
  · refine ⟨i + 1, by show i + 1 ≤ k + 1; omega, by show k + 1 - (i + 1) < k + 1 - i; omega, ⟨rfl, rfl, rfl, rfl, rfl, rfl, trivial⟩, ?_, ?_, ?_, ?_⟩
    · show takeH _ (.rowA ((refsT (most + 1) i (k + 1)).set i (.ref (AObj.rowA (refsT (most + 1) i (k + 1)) :: rowsT (zeroT (most + 1)) i).length 0 (most + 1))) :: (rowsT (zeroT (most + 1)) i ++ [.row .int (zeroT (most + 1) i)])) = _
      have e : (AObj.rowA (refsT (most + 1) i (k + 1)) :: rowsT (zeroT (most + 1)) i).length = i + 1 := by rw [List.length_cons, rowsT_len]
      rw [e, refsT_set (by omega), ← rowsT_succ, takeH_eq]
      exact List.take_length
    · simp only [List.length_cons, rowsT_len]; omega
    · rfl
    · simp only [List.length_cons, rowsT_len, undH, AObj.und, refsT_und, rowsT_und, Bool.and_self]
  · have : i = k + 1 := by omega
    subst this
    have hg : (refsT (most + 1) (k + 1) (k + 1)).getD (Int.toNat 0 + 0) AV.junk = .ref 1 0 (most + 1) := refsT_at (by omega)
    have hb : refSz C 42 1 (AObj.rowA (refsT (most + 1) (k + 1) (k + 1)) :: rowsT (zeroT (most + 1)) (k + 1)) := by
      show refSz C 42 1 _
      unfold refSz
      rw [show ath (AObj.rowA (refsT (most + 1) (k + 1) (k + 1)) :: rowsT (zeroT (most + 1)) (k + 1)) 1 = some (.row .int (zeroT (most + 1) 0)) from ath_rowsT (W := zeroT (most + 1)) (m := k + 1) (i := 0) (by omega)]
      rfl
    have ha : ath (AObj.rowA (refsT (most + 1) (k + 1) (k + 1)) :: rowsT (zeroT (most + 1)) (k + 1)) 1 = some (.row .int (zeroT (most + 1) 0)) := ath_rowsT (W := zeroT (most + 1)) (m := k + 1) (i := 0) (by omega)
    have hz : Int.toNat 0 + 0 < (zeroT (most + 1) 0).length := by simp [zeroT]
    try with_reducible refine CallB.mk ?_
    (repeat' ((conv => whnf); first
        | with_reducible refine RunM.go ?_
        | with_reducible refine AwM.go ?_
        | with_reducible refine DrawM.go ?_
        | refine NormH.go rfl ?_
        | with_reducible refine NormH.mk ?_
        | with_reducible refine Br.tt ?_
        | with_reducible refine Br.ff ?_
        | with_reducible refine Br.not ?_
        | with_reducible refine Br.and ?_
        | with_reducible refine Br.or ?_
        | with_reducible refine Br.isT (by assumption) ?_
        | with_reducible refine Br.isF (by assumption) ?_
        | with_reducible refine Br.eqSelf ?_
        | with_reducible refine Br.eqTF ?_
        | with_reducible refine Br.eqFT ?_
        | with_reducible refine Br.eqT ?_
        | with_reducible refine Br.eqF ?_
        | with_reducible refine Br.Teq ?_
        | with_reducible refine Br.Feq ?_
        | with_reducible refine Br.beqI ?_
        | with_reducible refine Br.bneI ?_
        | with_reducible refine Br.decT (by omega) ?_
        | with_reducible refine Br.decF (by omega) ?_
        | with_reducible refine Br.dec (fun h => ?_) (fun h => ?_)
        | with_reducible refine Br.mk (fun h => ?_) (fun h => ?_)
        | with_reducible refine Side.mk (by omega) ?_
        | with_reducible refine Side.mk (by assumption) ?_
        | with_reducible refine Side.mk rfl ?_
        | refine Side.mk (by exact rfl) ?_
        | with_reducible refine Alt.l (Side.mk (by omega) ?_)
        | with_reducible refine Alt.l (Side.mk (by refine ⟨rfl, ?_⟩; simp only [List.length_cons, List.length_nil]; omega) ?_)
        | refine Alt.l (Side.mk rfl ?_)
        | with_reducible refine Alt.r (Side.mk (by omega) ?_)
        | with_reducible refine Ovf.ok (by unfold inI64; omega) ?_
        | with_reducible refine Ovf.ok (inK64_u8 _) ?_
        | with_reducible refine Ovf.ok (by simp only [inK, decide_eq_true_eq]; omega) ?_
        | with_reducible apply DrawF.mk
        | with_reducible refine ForH.mk (fun _ => ?_)
        | with_reducible apply DrawR.mk
        | with_reducible apply DrawE.mk
        | with_reducible refine Stop.mk (AWP.drawM [] mixed (by kernel_rfl) ?_)
        | with_reducible exact Abs.Fin.mk ⟨rfl, rfl⟩
        | with_reducible refine Abs.Fin.mk ?_
        | rw [hg]
        | rw [ha]
        | refine CallA.pu (spec_tiSet n (by omega)) rfl rfl ?_
        | with_reducible refine BackK.mk ?_
        | with_reducible refine Stop.b ?_
        | with_reducible refine CallA.b ?_))
    refine .mk <| AWP.loop (α := Nat) (fun j => j ≤ (setN n).length) (fun j => [(0, .int .i64 n), (1, .int .i64 k), (5, .int .i64 most), (8, .ref 0 0 (k + 1)), (50, .isl .tile (setN n)), (51, .int .i64 (setN n).length), (52, .int .i64 j)])
      (fun j => .rowA (refsT (most + 1) (k + 1) (k + 1)) :: rowsT (fun i => tabl (most + 1) (cntT ((setN n).take j) i)) (k + 1)) (fun j => (setN n).length - j) 0 (Nat.zero_le _) ⟨rfl, rfl, rfl, rfl, rfl, rfl, rfl, trivial⟩ ?_ ?_
    · show AObj.rowA _ :: put 0 (AObj.row U.int ((zeroT (most + 1) 0).set 0 1)) (rowsT (zeroT (most + 1)) (k + 1)) = _
      rw [put_rowsT (by omega)]
      refine congrArg _ (rowsT_congr fun i _ => ?_)
      show (if i = 0 then (zeroT (most + 1) 0).set 0 1 else zeroT (most + 1) i) = tabl (most + 1) (f0 i)
      unfold zeroT
      rw [tabl_zero, tabl_set]
      split
      · rename_i e; subst e; exact tabl_congr fun s _ => by simp [f0]
      · rename_i e; exact tabl_congr fun s _ => by simp [f0, e]
    rintro j hj -
    refine AwM.out (C := C) ?_
    try with_reducible refine CallB.mk ?_
    (repeat' ((conv => whnf); first
        | with_reducible refine RunM.go ?_
        | with_reducible refine AwM.go ?_
        | with_reducible refine DrawM.go ?_
        | refine NormH.go rfl ?_
        | with_reducible refine NormH.mk ?_
        | with_reducible refine Br.tt ?_
        | with_reducible refine Br.ff ?_
        | with_reducible refine Br.not ?_
        | with_reducible refine Br.and ?_
        | with_reducible refine Br.or ?_
        | with_reducible refine Br.isT (by assumption) ?_
        | with_reducible refine Br.isF (by assumption) ?_
        | with_reducible refine Br.eqSelf ?_
        | with_reducible refine Br.eqTF ?_
        | with_reducible refine Br.eqFT ?_
        | with_reducible refine Br.eqT ?_
        | with_reducible refine Br.eqF ?_
        | with_reducible refine Br.Teq ?_
        | with_reducible refine Br.Feq ?_
        | with_reducible refine Br.beqI ?_
        | with_reducible refine Br.bneI ?_
        | with_reducible refine Br.decT (by omega) ?_
        | with_reducible refine Br.decF (by omega) ?_
        | with_reducible refine Br.dec (fun h => ?_) (fun h => ?_)
        | with_reducible refine Br.mk (fun h => ?_) (fun h => ?_)
        | with_reducible refine Side.mk (by omega) ?_
        | with_reducible refine Side.mk (by assumption) ?_
        | with_reducible refine Side.mk rfl ?_
        | refine Side.mk (by exact rfl) ?_
        | with_reducible refine Alt.l (Side.mk (by omega) ?_)
        | with_reducible refine Alt.l (Side.mk (by refine ⟨rfl, ?_⟩; simp only [List.length_cons, List.length_nil]; omega) ?_)
        | refine Alt.l (Side.mk rfl ?_)
        | with_reducible refine Alt.r (Side.mk (by omega) ?_)
        | with_reducible refine Ovf.ok (by unfold inI64; omega) ?_
        | with_reducible refine Ovf.ok (inK64_u8 _) ?_
        | with_reducible refine Ovf.ok (by simp only [inK, decide_eq_true_eq]; omega) ?_
        | with_reducible apply DrawF.mk
        | with_reducible refine ForH.mk (fun _ => ?_)
        | with_reducible apply DrawR.mk
        | with_reducible apply DrawE.mk
        | with_reducible refine Stop.mk (AWP.drawM [] mixed (by kernel_rfl) ?_)
        | with_reducible exact Abs.Fin.mk ⟨rfl, rfl⟩
        | with_reducible refine Abs.Fin.mk ?_
        | with_reducible refine BackK.mk ?_
        | with_reducible refine Stop.b ?_
        | with_reducible refine CallA.b ?_))
    · have hjl : j < (setN n).length := by omega
      obtain ⟨t, ht⟩ : ∃ t, (setN n).getD (↑j : Int).toNat (dflt U.tile) = t := ⟨_, rfl⟩
      have ht' : (setN n)[j]? = some t := by
        rw [← ht]
        show _ = some ((setN n).getD j (dflt U.tile))
        rw [List.getD_eq_getElem?_getD, List.getElem?_eq_getElem hjl]; rfl
      obtain ⟨t1, t2, t3⟩ := setP_mem (List.mem_of_getElem? ht') (Nat.le_refl _)
      have hp : ((pipsOf t : Nat) : Int) = t.lo + t.hi := by unfold pipsOf; omega
      have hpm : pipsOf t ≤ most := by rw [← hmost]; unfold sumP; exact mem_sum (List.mem_map_of_mem (List.mem_of_getElem? ht'))
      have hsucc : cntT ((setN n).take (j + 1)) = stp (pipsOf t) (cntT ((setN n).take j)) := by
        rw [List.take_add_one, ht']
        unfold cntT
        rw [List.foldl_append]
        rfl
      have hold : ∀ i s, 0 ≤ cntT ((setN n).take j) i s ∧ cntT ((setN n).take j) i s ≤ 562949953421312 := fun i s => by
        have := cntT_b ((setN n).take j) i s
        refine ⟨this.1, Int.le_trans this.2 ?_⟩
        have h2 : (2 : Int) ^ ((setN n).take j).length ≤ 2 ^ 49 := by
          have : ((setN n).take j).length ≤ 49 := by rw [List.length_take]; omega
          exact_mod_cast Nat.pow_le_pow_right (by omega) this
        exact Int.le_trans h2 (by decide)
      generalize cntT ((setN n).take j) = old at *
      obtain ⟨p, hpe⟩ : ∃ p, pipsOf t = p := ⟨_, rfl⟩
      rw [hpe] at hp hsucc hpm
      try with_reducible refine CallB.mk ?_
      (repeat' ((conv => whnf); first
          | with_reducible refine RunM.go ?_
          | with_reducible refine AwM.go ?_
          | with_reducible refine DrawM.go ?_
          | refine NormH.go rfl ?_
          | with_reducible refine NormH.mk ?_
          | with_reducible refine Br.tt ?_
          | with_reducible refine Br.ff ?_
          | with_reducible refine Br.not ?_
          | with_reducible refine Br.and ?_
          | with_reducible refine Br.or ?_
          | with_reducible refine Br.isT (by assumption) ?_
          | with_reducible refine Br.isF (by assumption) ?_
          | with_reducible refine Br.eqSelf ?_
          | with_reducible refine Br.eqTF ?_
          | with_reducible refine Br.eqFT ?_
          | with_reducible refine Br.eqT ?_
          | with_reducible refine Br.eqF ?_
          | with_reducible refine Br.Teq ?_
          | with_reducible refine Br.Feq ?_
          | with_reducible refine Br.beqI ?_
          | with_reducible refine Br.bneI ?_
          | with_reducible refine Br.decT (by omega) ?_
          | with_reducible refine Br.decF (by omega) ?_
          | with_reducible refine Br.dec (fun h => ?_) (fun h => ?_)
          | with_reducible refine Br.mk (fun h => ?_) (fun h => ?_)
          | with_reducible refine Side.mk (by omega) ?_
          | with_reducible refine Side.mk (by assumption) ?_
          | with_reducible refine Side.mk rfl ?_
          | refine Side.mk (by exact rfl) ?_
          | with_reducible refine Alt.l (Side.mk (by omega) ?_)
          | with_reducible refine Alt.l (Side.mk (by refine ⟨rfl, ?_⟩; simp only [List.length_cons, List.length_nil]; omega) ?_)
          | refine Alt.l (Side.mk rfl ?_)
          | with_reducible refine Alt.r (Side.mk (by omega) ?_)
          | with_reducible refine Ovf.ok (by unfold inI64; omega) ?_
          | with_reducible refine Ovf.ok (inK64_u8 _) ?_
          | with_reducible refine Ovf.ok (by simp only [inK, decide_eq_true_eq]; omega) ?_
          | with_reducible apply DrawF.mk
          | with_reducible refine ForH.mk (fun _ => ?_)
          | with_reducible apply DrawR.mk
          | with_reducible apply DrawE.mk
          | with_reducible refine Stop.mk (AWP.drawM [] mixed (by kernel_rfl) ?_)
          | with_reducible exact Abs.Fin.mk ⟨rfl, rfl⟩
          | with_reducible refine Abs.Fin.mk ?_
          | rw [ath_last]
          | rw [ht]
          | rw [put_last]
          | with_reducible refine BackK.mk ?_
          | with_reducible refine Stop.b ?_
          | with_reducible refine CallA.b ?_))
      have hlen2 : ∀ W : Nat → List Int, (AObj.rowA (refsT (most + 1) (k + 1) (k + 1)) :: rowsT W (k + 1)).length = k + 2 := fun W => by rw [List.length_cons, rowsT_len]
      refine .mk <| AWP.loop (α := Nat) (fun i => i ≤ k) (fun i => [(0, .int .i64 n), (1, .int .i64 k), (5, .int .i64 most), (8, .ref 0 0 (k + 1)), (12, .int .i64 p), (13, .int .i64 i), (50, .isl .tile (setN n)), (51, .int .i64 (setN n).length), (52, .int .i64 j)])
        (fun i => (AObj.rowA (refsT (most + 1) (k + 1) (k + 1)) :: rowsT (mid (most + 1) old p i (most + 1)) (k + 1)) ++ [.box [.int .i64 t.lo, .int .i64 t.hi]]) (fun i => i) k (Nat.le_refl _) ⟨rfl, rfl, rfl, rfl, ?_, rfl, rfl, rfl, rfl, trivial⟩ ?_ ?_
      · show some (AV.int .i64 (t.lo + t.hi)) = _
        rw [← hp]
      · (try rw [put_last])
        refine congrArg (fun x => (AObj.rowA (refsT (most + 1) (k + 1) (k + 1)) :: x) ++ [AObj.box [.int .i64 t.lo, .int .i64 t.hi]]) (rowsT_congr fun r hr => ?_)
        exact tabl_congr fun s hs => by rw [if_neg (by omega), if_neg (by omega)]
      rintro i hi2 -
      refine AwM.out (C := C) ?_
      try with_reducible refine CallB.mk ?_
      (repeat' ((conv => whnf); first
          | with_reducible refine RunM.go ?_
          | with_reducible refine AwM.go ?_
          | with_reducible refine DrawM.go ?_
          | refine NormH.go rfl ?_
          | with_reducible refine NormH.mk ?_
          | with_reducible refine Br.tt ?_
          | with_reducible refine Br.ff ?_
          | with_reducible refine Br.not ?_
          | with_reducible refine Br.and ?_
          | with_reducible refine Br.or ?_
          | with_reducible refine Br.isT (by assumption) ?_
          | with_reducible refine Br.isF (by assumption) ?_
          | with_reducible refine Br.eqSelf ?_
          | with_reducible refine Br.eqTF ?_
          | with_reducible refine Br.eqFT ?_
          | with_reducible refine Br.eqT ?_
          | with_reducible refine Br.eqF ?_
          | with_reducible refine Br.Teq ?_
          | with_reducible refine Br.Feq ?_
          | with_reducible refine Br.beqI ?_
          | with_reducible refine Br.bneI ?_
          | with_reducible refine Br.decT (by omega) ?_
          | with_reducible refine Br.decF (by omega) ?_
          | with_reducible refine Br.dec (fun h => ?_) (fun h => ?_)
          | with_reducible refine Br.mk (fun h => ?_) (fun h => ?_)
          | with_reducible refine Side.mk (by omega) ?_
          | with_reducible refine Side.mk (by assumption) ?_
          | with_reducible refine Side.mk rfl ?_
          | refine Side.mk (by exact rfl) ?_
          | with_reducible refine Alt.l (Side.mk (by omega) ?_)
          | with_reducible refine Alt.l (Side.mk (by refine ⟨rfl, ?_⟩; simp only [List.length_cons, List.length_nil]; omega) ?_)
          | refine Alt.l (Side.mk rfl ?_)
          | with_reducible refine Alt.r (Side.mk (by omega) ?_)
          | with_reducible refine Ovf.ok (by unfold inI64; omega) ?_
          | with_reducible refine Ovf.ok (inK64_u8 _) ?_
          | with_reducible refine Ovf.ok (by simp only [inK, decide_eq_true_eq]; omega) ?_
          | with_reducible apply DrawF.mk
          | with_reducible refine ForH.mk (fun _ => ?_)
          | with_reducible apply DrawR.mk
          | with_reducible apply DrawE.mk
          | with_reducible refine Stop.mk (AWP.drawM [] mixed (by kernel_rfl) ?_)
          | with_reducible exact Abs.Fin.mk ⟨rfl, rfl⟩
          | with_reducible refine Abs.Fin.mk ?_
          | with_reducible refine BackK.mk ?_
          | with_reducible refine Stop.b ?_
          | with_reducible refine CallA.b ?_))
      · obtain ⟨m, rfl⟩ : ∃ m, i = m + 1 := ⟨i - 1, by omega⟩
        refine .mk <| AWP.loop (α := Nat) (fun q => p ≤ q ∧ q ≤ (most + 1)) (fun q => [(0, .int .i64 n), (1, .int .i64 k), (5, .int .i64 most), (8, .ref 0 0 (k + 1)), (12, .int .i64 p), (13, .int .i64 ((m + 1 : Nat) : Int)), (14, .int .i64 (q - 1)), (50, .isl .tile (setN n)), (51, .int .i64 (setN n).length), (52, .int .i64 j)])
          (fun q => (AObj.rowA (refsT (most + 1) (k + 1) (k + 1)) :: rowsT (mid (most + 1) old p (m + 1) q) (k + 1)) ++ [.box [.int .i64 t.lo, .int .i64 t.hi]]) (fun q => q) (most + 1) ⟨by omega, by omega⟩ ⟨rfl, rfl, rfl, rfl, rfl, rfl, congrArg (fun x => some (AV.int .i64 x)) (show (most : Int) = ((most + 1 : Nat) : Int) - 1 by omega), rfl, rfl, rfl, trivial⟩ rfl ?_
        rintro q ⟨hq1, hq2⟩ -
        refine AwM.out (C := C) ?_
        have hbx : ath ((AObj.rowA (refsT (most + 1) (k + 1) (k + 1)) :: rowsT (mid (most + 1) old p (m + 1) q) (k + 1)) ++ [.box [.int .i64 t.lo, .int .i64 t.hi]]) (k + 2) = some (.box [.int .i64 t.lo, .int .i64 t.hi]) := by
          rw [← hlen2 (mid (most + 1) old p (m + 1) q)]; exact ath_last
        rcases Nat.lt_or_ge p q with hpq | hpq
        · have hA : ∀ r, r < k + 1 → ath ((AObj.rowA (refsT (most + 1) (k + 1) (k + 1)) :: rowsT (mid (most + 1) old p (m + 1) q) (k + 1)) ++ [.box [.int .i64 t.lo, .int .i64 t.hi]]) (r + 1) = some (.row .int (mid (most + 1) old p (m + 1) q r)) := fun r hr => by
            rw [ath_app (by rw [hlen2]; omega)]; exact ath_rowsT hr
          have hS : ∀ r, r < k + 1 → refSz C 42 (r + 1) ((AObj.rowA (refsT (most + 1) (k + 1) (k + 1)) :: rowsT (mid (most + 1) old p (m + 1) q) (k + 1)) ++ [.box [.int .i64 t.lo, .int .i64 t.hi]]) := fun r hr => by
            unfold refSz; rw [hA r hr]; rfl
          have hA1 := hA (m + 1) (by omega)
          have hA2 := hA m (by omega)
          have hS1 := hS (m + 1) (by omega)
          have hS2 := hS m (by omega)
          have hg1 : (refsT (most + 1) (k + 1) (k + 1)).getD ((((m + 1 : Nat) : Int)).toNat + 0) AV.junk = .ref (m + 1 + 1) 0 (most + 1) := refsT_at (by omega)
          have hg2 : (refsT (most + 1) (k + 1) (k + 1)).getD ((((m + 1 : Nat) : Int) - 1).toNat + 0) AV.junk = .ref (m + 1) 0 (most + 1) := by
            rw [show (((m + 1 : Nat) : Int) - 1).toNat + 0 = m by omega]; exact refsT_at (by omega)
          have e1 : ((q : Int) - 1).toNat + 0 = q - 1 := by omega
          have e2 : ((q : Int) - 1 - p).toNat + 0 = q - 1 - p := by omega
          have l1 : ((q : Int) - 1).toNat + 0 < (mid (most + 1) old p (m + 1) q (m + 1)).length := by unfold mid; rw [tabl_len]; omega
          have l2 : ((q : Int) - 1 - p).toNat + 0 < (mid (most + 1) old p (m + 1) q m).length := by unfold mid; rw [tabl_len]; omega
          have v1 : (mid (most + 1) old p (m + 1) q (m + 1)).getD (((q : Int) - 1).toNat + 0) (dflt U.int) = old (m + 1) (q - 1) := by
            rw [e1]; unfold mid; show (tabl _ _).getD _ 0 = _
            rw [tabl_at (by omega), if_neg (by omega), if_neg (by omega)]
          have v2 : (mid (most + 1) old p (m + 1) q m).getD (((q : Int) - 1 - p).toNat + 0) (dflt U.int) = old m (q - 1 - p) := by
            rw [e2]; unfold mid; show (tabl _ _).getD _ 0 = _
            rw [tabl_at (by omega), if_neg (by omega), if_neg (by omega)]
          have b1 := hold (m + 1) (q - 1)
          have b2 := hold m (q - 1 - p)
          try with_reducible refine CallB.mk ?_
          (repeat' ((conv => whnf); first
              | with_reducible refine RunM.go ?_
              | with_reducible refine AwM.go ?_
              | with_reducible refine DrawM.go ?_
              | refine NormH.go rfl ?_
              | with_reducible refine NormH.mk ?_
              | with_reducible refine Br.tt ?_
              | with_reducible refine Br.ff ?_
              | with_reducible refine Br.not ?_
              | with_reducible refine Br.and ?_
              | with_reducible refine Br.or ?_
              | with_reducible refine Br.isT (by assumption) ?_
              | with_reducible refine Br.isF (by assumption) ?_
              | with_reducible refine Br.eqSelf ?_
              | with_reducible refine Br.eqTF ?_
              | with_reducible refine Br.eqFT ?_
              | with_reducible refine Br.eqT ?_
              | with_reducible refine Br.eqF ?_
              | with_reducible refine Br.Teq ?_
              | with_reducible refine Br.Feq ?_
              | with_reducible refine Br.beqI ?_
              | with_reducible refine Br.bneI ?_
              | with_reducible refine Br.decT (by omega) ?_
              | with_reducible refine Br.decF (by omega) ?_
              | with_reducible refine Br.dec (fun h => ?_) (fun h => ?_)
              | with_reducible refine Br.mk (fun h => ?_) (fun h => ?_)
              | with_reducible refine Side.mk (by omega) ?_
              | with_reducible refine Side.mk (by assumption) ?_
              | with_reducible refine Side.mk rfl ?_
              | refine Side.mk (by exact rfl) ?_
              | with_reducible refine Alt.l (Side.mk (by omega) ?_)
              | with_reducible refine Alt.l (Side.mk (by refine ⟨rfl, ?_⟩; simp only [List.length_cons, List.length_nil]; omega) ?_)
              | refine Alt.l (Side.mk rfl ?_)
              | with_reducible refine Alt.r (Side.mk (by omega) ?_)
              | with_reducible refine Ovf.ok (by unfold inI64; omega) ?_
              | with_reducible refine Ovf.ok (inK64_u8 _) ?_
              | with_reducible refine Ovf.ok (by simp only [inK, decide_eq_true_eq]; omega) ?_
              | with_reducible apply DrawF.mk
              | with_reducible refine ForH.mk (fun _ => ?_)
              | with_reducible apply DrawR.mk
              | with_reducible apply DrawE.mk
              | with_reducible refine Stop.mk (AWP.drawM [] mixed (by kernel_rfl) ?_)
              | with_reducible exact Abs.Fin.mk ⟨rfl, rfl⟩
              | with_reducible refine Abs.Fin.mk ?_
              | rw [hbx]
              | rw [hg1]
              | rw [hg2]
              | rw [hA1]
              | rw [hA2]
              | with_reducible refine BackK.mk ?_
              | with_reducible refine Stop.b ?_
              | with_reducible refine CallA.b ?_))
          refine ⟨q - 1, ⟨by omega, by omega⟩, by show q - 1 < q; omega, ⟨rfl, rfl, rfl, rfl, rfl, rfl, ?_, rfl, rfl, rfl, trivial⟩, ?_, ?_, ?_, ?_⟩
          · show some (AV.int .i64 ((q : Int) - 1 - 1)) = some (AV.int .i64 (((q - 1 : Nat) : Int) - 1))
            rw [show ((q - 1 : Nat) : Int) = (q : Int) - 1 by omega]
          · rw [v1, v2, e1, put_app (by rw [hlen2]; omega)]
            show takeH (tabH (most + 1) k _ t.lo t.hi).length ((AObj.rowA (refsT (most + 1) (k + 1) (k + 1)) :: put (m + 1) _ (rowsT (mid (most + 1) old p (m + 1) q) (k + 1))) ++ _) = _
            rw [put_rowsT (by omega), takeH_len]
            · refine congrArg (fun x => (AObj.rowA (refsT (most + 1) (k + 1) (k + 1)) :: x) ++ [AObj.box [.int .i64 t.lo, .int .i64 t.hi]]) (rowsT_congr fun r hr => ?_)
              split
              · rename_i e; subst e
                unfold mid
                rw [tabl_set]
                refine tabl_congr fun s hs => ?_
                rcases Nat.lt_trichotomy s (q - 1) with h | h | h
                · rw [if_neg (by omega), if_neg (by omega), if_neg (by omega), if_neg (by omega), if_neg (by omega)]
                · subst h
                  rw [if_pos rfl, if_neg (by omega), if_pos (by omega)]
                  unfold stp
                  rw [if_pos (by omega)]
                  rfl
                · rw [if_neg (by omega), if_neg (by omega), if_pos (by omega), if_neg (by omega), if_pos (by omega)]
              · rename_i e
                unfold mid
                refine tabl_congr fun s hs => ?_
                by_cases h : m + 1 < r
                · rw [if_pos h, if_pos h]
                · rw [if_neg h, if_neg h, if_neg (by omega), if_neg (by omega)]
            · exact tabH_len.trans tabH_len.symm
          · exact Nat.le_of_eq (tabH_len.trans tabH_len.symm)
          · show undE (tabH (most + 1) k (mid (most + 1) old p (m + 1) (q - 1)) t.lo t.hi).length _ = true
            rw [tabH_len]
            simp [undE, AV.und]
          · show undH (tabH (most + 1) k (mid (most + 1) old p (m + 1) (q - 1)) t.lo t.hi).length (tabH (most + 1) k (mid (most + 1) old p (m + 1) (q - 1)) t.lo t.hi) = true
            exact tabH_und (by rw [tabH_len]; omega)
        · have hqp : q = p := by omega
          subst hqp
          try with_reducible refine CallB.mk ?_
          (repeat' ((conv => whnf); first
              | with_reducible refine RunM.go ?_
              | with_reducible refine AwM.go ?_
              | with_reducible refine DrawM.go ?_
              | refine NormH.go rfl ?_
              | with_reducible refine NormH.mk ?_
              | with_reducible refine Br.tt ?_
              | with_reducible refine Br.ff ?_
              | with_reducible refine Br.not ?_
              | with_reducible refine Br.and ?_
              | with_reducible refine Br.or ?_
              | with_reducible refine Br.isT (by assumption) ?_
              | with_reducible refine Br.isF (by assumption) ?_
              | with_reducible refine Br.eqSelf ?_
              | with_reducible refine Br.eqTF ?_
              | with_reducible refine Br.eqFT ?_
              | with_reducible refine Br.eqT ?_
              | with_reducible refine Br.eqF ?_
              | with_reducible refine Br.Teq ?_
              | with_reducible refine Br.Feq ?_
              | with_reducible refine Br.beqI ?_
              | with_reducible refine Br.bneI ?_
              | with_reducible refine Br.decT (by omega) ?_
              | with_reducible refine Br.decF (by omega) ?_
              | with_reducible refine Br.dec (fun h => ?_) (fun h => ?_)
              | with_reducible refine Br.mk (fun h => ?_) (fun h => ?_)
              | with_reducible refine Side.mk (by omega) ?_
              | with_reducible refine Side.mk (by assumption) ?_
              | with_reducible refine Side.mk rfl ?_
              | refine Side.mk (by exact rfl) ?_
              | with_reducible refine Alt.l (Side.mk (by omega) ?_)
              | with_reducible refine Alt.l (Side.mk (by refine ⟨rfl, ?_⟩; simp only [List.length_cons, List.length_nil]; omega) ?_)
              | refine Alt.l (Side.mk rfl ?_)
              | with_reducible refine Alt.r (Side.mk (by omega) ?_)
              | with_reducible refine Ovf.ok (by unfold inI64; omega) ?_
              | with_reducible refine Ovf.ok (inK64_u8 _) ?_
              | with_reducible refine Ovf.ok (by simp only [inK, decide_eq_true_eq]; omega) ?_
              | with_reducible apply DrawF.mk
              | with_reducible refine ForH.mk (fun _ => ?_)
              | with_reducible apply DrawR.mk
              | with_reducible apply DrawE.mk
              | with_reducible refine Stop.mk (AWP.drawM [] mixed (by kernel_rfl) ?_)
              | with_reducible exact Abs.Fin.mk ⟨rfl, rfl⟩
              | with_reducible refine Abs.Fin.mk ?_
              | rw [hbx]
              | with_reducible refine BackK.mk ?_
              | with_reducible refine Stop.b ?_
              | with_reducible refine CallA.b ?_))
          refine ⟨m, by show m ≤ k; omega, by show m < m + 1; omega, ⟨rfl, rfl, rfl, rfl, rfl, ?_, rfl, rfl, rfl, trivial⟩, ?_, ?_, ?_, ?_⟩
          · show some (AV.int .i64 (((m + 1 : Nat) : Int) - 1)) = some (AV.int .i64 (m : Int))
            rw [show ((m + 1 : Nat) : Int) - 1 = (m : Int) by omega]
          · show takeH (tabH (most + 1) k _ t.lo t.hi).length _ = _
            rw [takeH_len]
            · refine congrArg (fun x => (AObj.rowA (refsT (most + 1) (k + 1) (k + 1)) :: x) ++ [AObj.box [.int .i64 t.lo, .int .i64 t.hi]]) (rowsT_congr fun r hr => ?_)
              unfold mid
              refine tabl_congr fun s hs => ?_
              by_cases h : m + 1 < r
              · rw [if_pos h, if_pos (by omega)]
              · rw [if_neg h]
                by_cases h2 : r = m + 1
                · subst h2
                  rw [if_pos (by omega : m < m + 1)]
                  split
                  · rfl
                  · unfold stp; rw [if_neg (by omega)]
                · rw [if_neg (by omega), if_neg (by omega), if_neg (by omega)]
            · exact tabH_len.trans tabH_len.symm
          · exact Nat.le_of_eq (tabH_len.trans tabH_len.symm)
          · show undE (tabH (most + 1) k (mid (most + 1) old q m (most + 1)) t.lo t.hi).length _ = true
            rw [tabH_len]
            simp [undE, AV.und]
          · show undH (tabH (most + 1) k (mid (most + 1) old q m (most + 1)) t.lo t.hi).length (tabH (most + 1) k (mid (most + 1) old q m (most + 1)) t.lo t.hi) = true
            exact tabH_und (by rw [tabH_len]; omega)
      · have hi0 : i = 0 := by omega
        subst hi0
        refine ⟨j + 1, by show j + 1 ≤ _; omega, by show (setN n).length - (j + 1) < (setN n).length - j; omega, ⟨rfl, rfl, rfl, rfl, rfl, rfl, rfl, trivial⟩, ?_, ?_, ?_, ?_⟩
        · show takeH (AObj.rowA (refsT (most + 1) (k + 1) (k + 1)) :: rowsT (fun i => tabl (most + 1) (cntT ((setN n).take (j + 1)) i)) (k + 1)).length _ = (AObj.rowA (refsT (most + 1) (k + 1) (k + 1)) :: rowsT (fun i => tabl (most + 1) (cntT ((setN n).take (j + 1)) i)) (k + 1))
          rw [takeH_eq, hlen2, List.take_left' (hlen2 _), hsucc]
          refine congrArg _ (rowsT_congr fun r hr => ?_)
          unfold mid
          refine tabl_congr fun s hs => ?_
          by_cases h : 0 < r
          · rw [if_pos h]
          · rw [if_neg h, if_neg (by omega)]
            unfold stp
            rw [if_neg (by omega)]
        · exact Nat.le_of_eq ((hlen2 _).trans (hlen2 _).symm)
        · rfl
        · show undH (AObj.rowA (refsT (most + 1) (k + 1) (k + 1)) :: rowsT (fun i => tabl (most + 1) (cntT ((setN n).take (j + 1)) i)) (k + 1)).length (AObj.rowA (refsT (most + 1) (k + 1) (k + 1)) :: rowsT (fun i => tabl (most + 1) (cntT ((setN n).take (j + 1)) i)) (k + 1)) = true
          rw [hlen2, undH, rowsT_und]
          simp only [AObj.und, refsT_und' (show k + 1 < k + 2 by omega), Bool.and_self]
    · have e : j = (setN n).length := by omega
      subst e
      rw [List.take_length]
      have hk : (refsT (most + 1) (k + 1) (k + 1)).getD ((↑k : Int).toNat + 0) AV.junk = .ref (k + 1) 0 (most + 1) := refsT_at (by omega)
      rw [hk]
      exact .all (k + 1) _ .int _ (Nat.zero_le _) (ath_rowsT (by omega)) (by rw [tabl_len])
end Go.Proofs.Ytpignhcdfioldaa
