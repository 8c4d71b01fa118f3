import Derived.Test.YtpignhcdfioldaaChL11

set_option autoImplicit false
set_option maxRecDepth 100000
set_option maxHeartbeats 4000000
namespace Go.Proofs.Ytpignhcdfioldaa
open Go Go.Abs

theorem cnt_b (n k s : Int) (hd : inDraw n k = true) : 0 ≤ cnt n k s ∧ cnt n k s ≤ 562949953421312 := by
  obtain ⟨d1, d2, d3, d4⟩ := inDraw_iff.1 hd
  have hm := (most_small n.toNat (by omega)).2
  have hb := tilesN_b d1 d2
  have e : ((n.toNat : Nat) : Int) = n := by omega
  rw [e] at hm
  have := cntT_b (setN n.toNat) k.toNat s.toNat
  refine ⟨this.1, Int.le_trans this.2 ?_⟩
  have h2 : (2 : Int) ^ (setN n.toNat).length ≤ 2 ^ 49 := by
    exact_mod_cast Nat.pow_le_pow_right (by omega) (by omega)
  exact Int.le_trans h2 (by decide)

theorem iT {a H : Nat} (h0 : 0 < H) (h1 : H ≤ 100000000) (h2 : a ≤ 100000000) : Pu C F.laws_iTimes [.agg [.int .i64 (rnum a H), .int .i64 (rden a H)], .int .i64 H] (.int .i64 a) := by
  have hn := rnum_b a H
  have hdn := rden_b a H
  have := laws_iTimes (rnum a H) (rden a H) H (by omega) (by omega) (by omega) (by omega) (by omega)
  obtain ⟨e1, e2, e3⟩ := back_eq (a := a) h0
  have e2' : (H : Int) % (rden a H : Int) = 0 := by exact_mod_cast e2
  rw [if_neg (by omega)] at this
  have e3' : (rnum a H : Int) * ((H : Int) / (rden a H : Int)) = a := by exact_mod_cast e3
  rwa [e3'] at this

theorem chz_up : ∀ n ≤ 27, ∀ k ≤ n, chz n k ≤ chz (n + 1) (k + 1) := by decide
theorem cho_up {n k : Int} (h : n ≤ 27) : cho n k ≤ cho (n + 1) (k + 1) := by
  unfold cho
  by_cases c : 0 ≤ k ∧ k ≤ n
  · rw [if_pos c, if_pos (by omega)]
    have := chz_up n.toNat (by omega) k.toNat (by omega)
    rwa [show n.toNat + 1 = (n + 1).toNat by omega, show k.toNat + 1 = (k + 1).toNat by omega] at this
  · rw [if_neg c]; exact Nat.zero_le _

theorem frac_le {a a' b : Nat} (hb : 0 < b) (h : a ≤ a') : rnum a b * rden a' b ≤ rnum a' b * rden a b := by
  have g1 : 0 < Nat.gcd a b := Nat.gcd_pos_of_pos_right _ hb
  have g2 : 0 < Nat.gcd a' b := Nat.gcd_pos_of_pos_right _ hb
  have e1 : rnum a b * Nat.gcd a b = a := Nat.div_mul_cancel (Nat.gcd_dvd_left a b)
  have e2 : rnum a' b * Nat.gcd a' b = a' := Nat.div_mul_cancel (Nat.gcd_dvd_left a' b)
  have e3 : rden a b * Nat.gcd a b = b := Nat.div_mul_cancel (Nat.gcd_dvd_right a b)
  have e4 : rden a' b * Nat.gcd a' b = b := Nat.div_mul_cancel (Nat.gcd_dvd_right a' b)
  refine Nat.le_of_mul_le_mul_right (c := Nat.gcd a b * Nat.gcd a' b) ?_ (Nat.mul_pos g1 g2)
  have l : rnum a b * rden a' b * (Nat.gcd a b * Nat.gcd a' b) = a * b := by
    rw [show rnum a b * rden a' b * (Nat.gcd a b * Nat.gcd a' b) = (rnum a b * Nat.gcd a b) * (rden a' b * Nat.gcd a' b) by ac_rfl, e1, e4]
  have r : rnum a' b * rden a b * (Nat.gcd a b * Nat.gcd a' b) = a' * b := by
    rw [show rnum a' b * rden a b * (Nat.gcd a b * Nat.gcd a' b) = (rnum a' b * Nat.gcd a' b) * (rden a b * Nat.gcd a b) by ac_rfl, e2, e3]
  rw [l, r]
  exact Nat.mul_le_mul_right _ h

theorem RF_t (a b : Nat) : RF true a b = RB (rnum a b) (rden a b) true := rfl

theorem tail_facts {a b m : Int} (ht : inTiles a b m = true) : ∃ x y x' y' : Nat, Pu C F.impl_ChanceOfTiles [.int .i64 a, .int .i64 b, .int .i64 m] (RB x y true) ∧ Pu C F.spec_ChanceOfTiles [.int .i64 a, .int .i64 b, .int .i64 m] (RB x y true) ∧
    (0 < m → Pu C F.impl_ChanceOfTiles [.int .i64 a, .int .i64 b, .int .i64 (m - 1)] (RB x' y' true)) ∧ (x : Int) * y' ≤ x' * y ∧ (0 : Int) ≤ x * y' ∧ (x : Int) * y' ≤ 10000000000000000 ∧ (0 : Int) ≤ x' * y ∧ (x' : Int) * y ≤ 10000000000000000 ∧ m ≤ 28 := by
  obtain ⟨hd, t1, t2⟩ := inTiles_iff.1 ht
  obtain ⟨d1, d2, d3, d4⟩ := inDraw_iff.1 hd
  obtain ⟨b1, b2, b3, b4⟩ := tilesN_b d1 d2
  have hcb := cho_b (n := tilesN a) (k := b) (by omega) b4
  have hp := hcb.2 d3 d4
  obtain ⟨B, hB⟩ : ∃ B, cho (tilesN a) b = B := ⟨_, rfl⟩
  obtain ⟨X, hX⟩ : ∃ X, cho (tilesN a - m) (b - m) = X := ⟨_, rfl⟩
  obtain ⟨X', hX'⟩ : ∃ X, cho (tilesN a - (m - 1)) (b - (m - 1)) = X := ⟨_, rfl⟩
  have lX : X ≤ 100000000 := by rw [← hX]; exact (cho_b (k := b - m) (by omega) (by omega)).1
  have p1 := impl_ChanceOfTiles a b m
  have p2 := spec_ChanceOfTiles a b m
  have p3 := impl_ChanceOfTiles a b (m - 1)
  unfold mTiles at p1 p2 p3
  rw [ht, hX, hB, RF_t] at p1 p2
  rw [hB] at hp hcb
  have n1 := rnum_b X B
  have n2 := rden_b X B
  have n4 := rden_b X' B
  rcases Int.lt_or_le 0 m with hm | hm
  · have lX' : X' ≤ 100000000 := by rw [← hX']; exact (cho_b (k := b - (m - 1)) (by omega) (by omega)).1
    have up : X ≤ X' := by
      rw [← hX, ← hX', show tilesN a - (m - 1) = tilesN a - m + 1 by omega, show b - (m - 1) = b - m + 1 by omega]
      exact cho_up (by omega)
    rw [inTiles_iff.2 ⟨hd, by omega, by omega⟩, hX', hB, RF_t] at p3
    have n3 := rnum_b X' B
    refine ⟨_, _, _, _, p1, p2, fun _ => p3, ?_, ?_, ?_, ?_, ?_, by omega⟩
    · exact_mod_cast frac_le hp up
    · exact_mod_cast Nat.zero_le _
    · exact Int.le_trans (Int.ofNat_le.2 (Nat.mul_le_mul (show rnum X B ≤ 100000000 by omega) (show rden X' B ≤ 100000000 by omega))) (by decide)
    · exact_mod_cast Nat.zero_le _
    · exact Int.le_trans (Int.ofNat_le.2 (Nat.mul_le_mul (show rnum X' B ≤ 100000000 by omega) (show rden X B ≤ 100000000 by omega))) (by decide)
  · refine ⟨_, _, _, _, p1, p2, fun h => by omega, Int.le_refl _, ?_, ?_, ?_, ?_, by omega⟩
    · exact_mod_cast Nat.zero_le _
    · exact Int.le_trans (Int.ofNat_le.2 (Nat.mul_le_mul (show rnum X B ≤ 100000000 by omega) (show rden X B ≤ 100000000 by omega))) (by decide)
    · exact_mod_cast Nat.zero_le _
    · exact Int.le_trans (Int.ofNat_le.2 (Nat.mul_le_mul (show rnum X B ≤ 100000000 by omega) (show rden X B ≤ 100000000 by omega))) (by decide)

/-- Everything that the first part of the law needs, in variables. -/
theorem cho_J0 {n k : Int} (hd : inDraw n k = true) : jus (tilesN n) k (n + 1) 0 ≤ cho (tilesN n) k := by
  rw [(open_eq hd).2.2]; exact cho_op hd

theorem sumJ_mono (n k : Int) : ∀ {i j : Nat}, i ≤ j → sumJ n k i ≤ sumJ n k j := by
  intro i j h
  induction h with
  | refl => exact Nat.le_refl _
  | step h ih => exact Nat.le_trans ih (Nat.le_add_right _ _)
theorem sumW_b (n k : Int) (hn : n ≤ 6) : ∀ i : Nat, (i : Int) ≤ n + 2 → sumW n k i ≤ 8 * sumJ n k i
  | 0, _ => Nat.le_refl _
  | i + 1, h => by
    have ih := sumW_b n k hn i (by omega)
    have : i * jus (tilesN n) k (n + 1) i ≤ 8 * jus (tilesN n) k (n + 1) i := Nat.mul_le_mul_right _ (by omega)
    simp only [sumW, sumJ]
    omega

theorem sumF_mono {f : Nat → Int} (h : ∀ s, 0 ≤ f s) : ∀ {i j : Nat}, i ≤ j → sumF f i ≤ sumF f j := by
  intro i j hij
  induction hij with
  | refl => exact Int.le_refl _
  | step _ ih => have := h (by assumption); simp only [sumF]; have := h ‹Nat›; omega

theorem least_eq {f : Nat → Int} {l l' : Nat} (l3 : ∀ s, f s ≤ f l) (l4 : ∀ s, s < l → f s < f l) (l3' : ∀ s, f s ≤ f l') (l4' : ∀ s, s < l' → f s < f l') : l = l' := by
  rcases Nat.lt_trichotomy l l' with h | h | h
  · have := l4' l h; have := l3 l'; omega
  · exact h
  · have := l4 l' h; have := l3' l; omega

theorem rn_self {H : Nat} (h : 0 < H) : rnum H H = 1 := by unfold rnum; rw [Nat.gcd_self]; exact Nat.div_self h
theorem rd_self {H : Nat} (h : 0 < H) : rden H H = 1 := by unfold rden; rw [Nat.gcd_self]; exact Nat.div_self h

theorem sumFs_b {f : Nat → Int} (h : ∀ s, 0 ≤ f s) : ∀ p : Nat, p ≤ 61 → 0 ≤ sumF (fun s => (s : Int) * f s) p ∧ sumF (fun s => (s : Int) * f s) p ≤ 60 * sumF f p
  | 0, _ => ⟨Int.le_refl _, Int.le_refl _⟩
  | p + 1, hp => by
    obtain ⟨i1, i2⟩ := sumFs_b h p (by omega)
    have e1 : sumF (fun s => (s : Int) * f s) (p + 1) = sumF (fun s => (s : Int) * f s) p + p * f p := rfl
    have e2 : sumF f (p + 1) = sumF f p + f p := rfl
    have a1 : (0 : Int) ≤ p * f p := Int.mul_nonneg (by omega) (h p)
    have a2 : (p : Int) * f p ≤ 60 * f p := Int.mul_le_mul_of_nonneg_right (by omega) (h p)
    omega
theorem small_at {n k : Int} (hd : inDraw n k = true) (hn : n ≤ 3) : sumF (fun s => cnt n k s) 61 = cho (tilesN n) k ∧ sumF (fun s => s * cnt n k s) 61 = cho (tilesN n) k * k * n ∧ tilesN n ≤ 10 := by
  obtain ⟨d1, d2, d3, d4⟩ := inDraw_iff.1 hd
  have hT : tilesN n ≤ 10 := by
    unfold tilesN
    rcases (by omega : n = 0 ∨ n = 1 ∨ n = 2 ∨ n = 3) with rfl | rfl | rfl | rfl <;> decide
  obtain ⟨n, rfl⟩ := Int.eq_ofNat_of_zero_le d1
  obtain ⟨k, rfl⟩ := Int.eq_ofNat_of_zero_le d3
  obtain ⟨g1, g2, g3⟩ := small_sums n (by omega) k (by omega) d4
  refine ⟨?_, ?_, hT⟩
  · rw [← g1, ← allT_eq (setN n) k 61 (by omega)]; rfl
  · rw [← g2, ← pipT_eq (setN n) k 61 (by omega)]; rfl

theorem likely_facts {n k : Int} (hd : inDraw n k = true) {m M : Nat} (hM : sumP (setN n.toNat) + 1 ≤ M) (h2 : ∀ s : Nat, s < M → cnt n k s ≤ cnt n k m) (h3 : ∀ s : Nat, s < m → cnt n k s < cnt n k m) :
    m ≤ 168 ∧ 1 ≤ cnt n k m ∧ (∀ s : Nat, cnt n k s ≤ cnt n k m) ∧ ∀ s : Nat, s < m → cnt n k s < cnt n k m := by
  obtain ⟨d1, d2, d3, d4⟩ := inDraw_iff.1 hd
  have hm := most_small n.toNat (by omega)
  have e : ((n.toNat : Nat) : Int) = n := by omega
  rw [e] at hm
  have zero : ∀ s : Nat, sumP (setN n.toNat) < s → cnt n k s = 0 := fun s hs => cntT_most _ _ _ hs
  obtain ⟨s, hs⟩ := cntT_one (setN n.toNat) k.toNat (by omega)
  have hs : 1 ≤ cnt n k s := hs
  have hsM : s ≤ sumP (setN n.toNat) := by
    rcases Nat.lt_or_ge (sumP (setN n.toNat)) s with h | h
    · have := zero s h; omega
    · exact h
  have h1 : 1 ≤ cnt n k m := Int.le_trans hs (h2 s (by omega))
  refine ⟨?_, h1, fun s => ?_, h3⟩
  · rcases Nat.lt_or_ge (sumP (setN n.toNat)) m with h | h
    · have := zero m h; omega
    · omega
  · rcases Nat.lt_or_ge s M with h | h
    · exact h2 s h
    · have := zero s (by omega); omega

theorem law (code more : List UInt8) (hc : code.length ≤ 9223372036854775807) : Pu C F.laws_FnChancesOfHands [.isl .u8 code, .isl .u8 more] (.bool true) := by
  refine pu_of Try.func3 rfl rfl rfl ?_
  try with_reducible refine CallB.mk ?_
  (repeat' ((conv => whnf); first
      | with_reducible refine RunM.go ?_
      | with_reducible refine AwM.go ?_
      | with_reducible refine DrawM.go ?_
      | ((with_reducible apply NormH.go); (focus exact rfl))
      | with_reducible refine NormH.mk ?_
      | with_reducible refine Br.tt ?_
      | with_reducible refine Br.ff ?_
      | with_reducible refine Br.not ?_
      | with_reducible refine Br.and ?_
      | with_reducible refine Br.or ?_
      | with_reducible refine Br.eqSelf ?_
      | with_reducible refine Br.eqTF ?_
      | with_reducible refine Br.eqFT ?_
      | with_reducible refine Br.eqT ?_
      | with_reducible refine Br.eqF ?_
      | with_reducible refine Br.Teq ?_
      | with_reducible refine Br.Feq ?_
      | with_reducible refine Br.beqI ?_
      | with_reducible refine Br.bneI ?_
      | with_reducible refine Br.decT (by omega) ?_
      | with_reducible refine Br.decF (by omega) ?_
      | with_reducible refine Br.isT (by assumption) ?_
      | with_reducible refine Br.isF (by assumption) ?_
      | with_reducible refine Br.dec (fun h => ?_) (fun h => ?_)
      | with_reducible refine Br.mk (fun h => ?_) (fun h => ?_)
      | ((with_reducible refine Side.mk ?cx ?_); case cx => first | omega | assumption | exact rfl)
      | ((with_reducible refine Alt.l (Side.mk ?cx ?_)); case cx => first | omega | (refine ⟨rfl, ?_⟩; simp only [List.length_cons, List.length_nil]; omega) | exact rfl)
      | ((with_reducible refine Alt.r (Side.mk ?cx ?_)); case cx => omega)
      | ((with_reducible refine Ovf.ok ?cx ?_); case cx => first | (unfold inI64; omega) | exact inK64_u8 _ | (simp only [inK, decide_eq_true_eq]; omega))
      | with_reducible apply DrawF.mk
      | with_reducible refine ForH.mk (fun _ => ?_)
      | with_reducible apply DrawR.mk
      | with_reducible apply DrawE.mk
      | with_reducible refine Stop.mk (AWP.drawM [] mixed (by kernel_rfl) ?_)
      | with_reducible exact Abs.Fin.mk ⟨rfl, rfl⟩
      | with_reducible refine Abs.Fin.mk ?_
      | refine CallA.pu (laws_big code more hc) rfl rfl ?_
      | with_reducible refine BackK.mk ?_
      | with_reducible refine Stop.b ?_
      | with_reducible refine CallA.b ?_))
  · exact Tells.eq rfl rfl
  try with_reducible refine CallB.mk ?_
  (repeat' ((conv => whnf); first
      | with_reducible refine RunM.go ?_
      | with_reducible refine AwM.go ?_
      | with_reducible refine DrawM.go ?_
      | ((with_reducible apply NormH.go); (focus exact rfl))
      | with_reducible refine NormH.mk ?_
      | with_reducible refine Br.tt ?_
      | with_reducible refine Br.ff ?_
      | with_reducible refine Br.not ?_
      | with_reducible refine Br.and ?_
      | with_reducible refine Br.or ?_
      | with_reducible refine Br.eqSelf ?_
      | with_reducible refine Br.eqTF ?_
      | with_reducible refine Br.eqFT ?_
      | with_reducible refine Br.eqT ?_
      | with_reducible refine Br.eqF ?_
      | with_reducible refine Br.Teq ?_
      | with_reducible refine Br.Feq ?_
      | with_reducible refine Br.beqI ?_
      | with_reducible refine Br.bneI ?_
      | with_reducible refine Br.decT (by omega) ?_
      | with_reducible refine Br.decF (by omega) ?_
      | with_reducible refine Br.isT (by assumption) ?_
      | with_reducible refine Br.isF (by assumption) ?_
      | with_reducible refine Br.dec (fun h => ?_) (fun h => ?_)
      | with_reducible refine Br.mk (fun h => ?_) (fun h => ?_)
      | ((with_reducible refine Side.mk ?cx ?_); case cx => first | omega | assumption | exact rfl)
      | ((with_reducible refine Alt.l (Side.mk ?cx ?_)); case cx => first | omega | (refine ⟨rfl, ?_⟩; simp only [List.length_cons, List.length_nil]; omega) | exact rfl)
      | ((with_reducible refine Alt.r (Side.mk ?cx ?_)); case cx => omega)
      | ((with_reducible refine Ovf.ok ?cx ?_); case cx => first | (unfold inI64; omega) | exact inK64_u8 _ | (simp only [inK, decide_eq_true_eq]; omega))
      | with_reducible apply DrawF.mk
      | with_reducible refine ForH.mk (fun _ => ?_)
      | with_reducible apply DrawR.mk
      | with_reducible apply DrawE.mk
      | with_reducible refine Stop.mk (AWP.drawM [] mixed (by kernel_rfl) ?_)
      | with_reducible exact Abs.Fin.mk ⟨rfl, rfl⟩
      | with_reducible refine Abs.Fin.mk ?_
      | refine CallA.pr (spec_DrawCountHands code) rfl ?_; rintro _ ⟨n, k, rfl⟩
      | with_reducible refine BackK.mk ?_
      | with_reducible refine Stop.b ?_
      | with_reducible refine CallA.b ?_))
  cases hd : inDraw n k
  · have c1 : Pu C F.impl_CountHands [.int .i64 n, .int .i64 k] (IB 0 false) := by have := impl_CountHands n k; rwa [hd] at this
    have c2 : Pu C F.spec_CountHands [.int .i64 n, .int .i64 k] (IB 0 false) := by have := spec_CountHands n k; rwa [hd] at this
    have c3 : Pu C F.impl_ChanceOfTile [.int .i64 n, .int .i64 k] (RB 0 0 false) := by have := impl_ChanceOfTile n k; rwa [mTiles_1, hd] at this
    have c4 : Pu C F.spec_ChanceOfTile [.int .i64 n, .int .i64 k] (RB 0 0 false) := by have := spec_ChanceOfTile n k; rwa [hd] at this
    have c5 : Pu C F.impl_DoublesMean [.int .i64 n, .int .i64 k] (RB 0 0 false) := by have := impl_DoublesMean n k; rwa [hd] at this
    have c6 : Pu C F.spec_DoublesMean [.int .i64 n, .int .i64 k] (RB 0 0 false) := by have := spec_DoublesMean n k; rwa [hd] at this
    have c7 : Pu C F.impl_PipsMean [.int .i64 n, .int .i64 k] (RB 0 0 false) := by have := impl_PipsMean n k; rwa [hd] at this
    have c8 : Pu C F.spec_PipsMean [.int .i64 n, .int .i64 k] (RB 0 0 false) := by have := spec_PipsMean n k; rwa [hd] at this
    have c9 : Pu C F.impl_ChanceOfOpening [.int .i64 n, .int .i64 k] (RB 0 0 false) := by have := impl_ChanceOfOpening n k; rwa [RO_eq, hd] at this
    have c10 : Pu C F.spec_ChanceOfOpening [.int .i64 n, .int .i64 k] (RB 0 0 false) := by have := spec_ChanceOfOpening n k; rwa [hd] at this
    have c11 : Pr C F.impl_LikeliestPips [.int .i64 n, .int .i64 k] fun v => v = IB 0 false := by
      refine (impl_LikeliestPips n k).imp ?_
      rintro _ ⟨i, rfl, h, -⟩; rw [hd, h hd]
    have c12 : Pr C F.spec_LikeliestPips [.int .i64 n, .int .i64 k] fun v => v = IB 0 false := by
      refine (spec_LikeliestPips n k).imp ?_
      rintro _ ⟨i, rfl, h, -⟩; rw [hd, h hd]
    clear hd
    try with_reducible refine CallB.mk ?_
    (repeat' ((conv => whnf); first
        | with_reducible refine RunM.go ?_
        | with_reducible refine AwM.go ?_
        | with_reducible refine DrawM.go ?_
        | ((with_reducible apply NormH.go); (focus exact rfl))
        | with_reducible refine NormH.mk ?_
        | with_reducible refine Br.tt ?_
        | with_reducible refine Br.ff ?_
        | with_reducible refine Br.not ?_
        | with_reducible refine Br.and ?_
        | with_reducible refine Br.or ?_
        | with_reducible refine Br.eqSelf ?_
        | with_reducible refine Br.eqTF ?_
        | with_reducible refine Br.eqFT ?_
        | with_reducible refine Br.eqT ?_
        | with_reducible refine Br.eqF ?_
        | with_reducible refine Br.Teq ?_
        | with_reducible refine Br.Feq ?_
        | with_reducible refine Br.beqI ?_
        | with_reducible refine Br.bneI ?_
        | with_reducible refine Br.decT (by omega) ?_
        | with_reducible refine Br.decF (by omega) ?_
        | with_reducible refine Br.isT (by assumption) ?_
        | with_reducible refine Br.isF (by assumption) ?_
        | with_reducible refine Br.dec (fun h => ?_) (fun h => ?_)
        | with_reducible refine Br.mk (fun h => ?_) (fun h => ?_)
        | ((with_reducible refine Side.mk ?cx ?_); case cx => first | omega | assumption | exact rfl)
        | ((with_reducible refine Alt.l (Side.mk ?cx ?_)); case cx => first | omega | (refine ⟨rfl, ?_⟩; simp only [List.length_cons, List.length_nil]; omega) | exact rfl)
        | ((with_reducible refine Alt.r (Side.mk ?cx ?_)); case cx => omega)
        | ((with_reducible refine Ovf.ok ?cx ?_); case cx => first | (unfold inI64; omega) | exact inK64_u8 _ | (simp only [inK, decide_eq_true_eq]; omega))
        | with_reducible apply DrawF.mk
        | with_reducible refine ForH.mk (fun _ => ?_)
        | with_reducible apply DrawR.mk
        | with_reducible apply DrawE.mk
        | with_reducible refine Stop.mk (AWP.drawM [] mixed (by kernel_rfl) ?_)
        | with_reducible exact Abs.Fin.mk ⟨rfl, rfl⟩
        | with_reducible refine Abs.Fin.mk ?_
        | refine CallA.pu c1 rfl rfl ?_
        | refine CallA.pu c2 rfl rfl ?_
        | refine CallA.pu c3 rfl rfl ?_
        | refine CallA.pu c4 rfl rfl ?_
        | refine CallA.pu c5 rfl rfl ?_
        | refine CallA.pu c6 rfl rfl ?_
        | refine CallA.pu c7 rfl rfl ?_
        | refine CallA.pu c8 rfl rfl ?_
        | refine CallA.pu c9 rfl rfl ?_
        | refine CallA.pu c10 rfl rfl ?_
        | refine CallA.pr c11 rfl ?_; rintro _ rfl
        | refine CallA.pr c12 rfl ?_; rintro _ rfl
        | with_reducible refine BackK.mk ?_
        | with_reducible refine Stop.b ?_
        | with_reducible refine CallA.b ?_))
    try with_reducible refine CallB.mk ?_
    (repeat' ((conv => whnf); first
        | with_reducible refine RunM.go ?_
        | with_reducible refine AwM.go ?_
        | with_reducible refine DrawM.go ?_
        | ((with_reducible apply NormH.go); (focus exact rfl))
        | with_reducible refine NormH.mk ?_
        | with_reducible refine Br.tt ?_
        | with_reducible refine Br.ff ?_
        | with_reducible refine Br.not ?_
        | with_reducible refine Br.and ?_
        | with_reducible refine Br.or ?_
        | with_reducible refine Br.eqSelf ?_
        | with_reducible refine Br.eqTF ?_
        | with_reducible refine Br.eqFT ?_
        | with_reducible refine Br.eqT ?_
        | with_reducible refine Br.eqF ?_
        | with_reducible refine Br.Teq ?_
        | with_reducible refine Br.Feq ?_
        | with_reducible refine Br.beqI ?_
        | with_reducible refine Br.bneI ?_
        | with_reducible refine Br.decT (by omega) ?_
        | with_reducible refine Br.decF (by omega) ?_
        | with_reducible refine Br.isT (by assumption) ?_
        | with_reducible refine Br.isF (by assumption) ?_
        | with_reducible refine Br.dec (fun h => ?_) (fun h => ?_)
        | with_reducible refine Br.mk (fun h => ?_) (fun h => ?_)
        | ((with_reducible refine Side.mk ?cx ?_); case cx => first | omega | assumption | exact rfl)
        | ((with_reducible refine Alt.l (Side.mk ?cx ?_)); case cx => first | omega | (refine ⟨rfl, ?_⟩; simp only [List.length_cons, List.length_nil]; omega) | exact rfl)
        | ((with_reducible refine Alt.r (Side.mk ?cx ?_)); case cx => omega)
        | ((with_reducible refine Ovf.ok ?cx ?_); case cx => first | (unfold inI64; omega) | exact inK64_u8 _ | (simp only [inK, decide_eq_true_eq]; omega))
        | with_reducible apply DrawF.mk
        | with_reducible refine ForH.mk (fun _ => ?_)
        | with_reducible apply DrawR.mk
        | with_reducible apply DrawE.mk
        | with_reducible refine Stop.mk (AWP.drawM [] mixed (by kernel_rfl) ?_)
        | with_reducible exact Abs.Fin.mk ⟨rfl, rfl⟩
        | with_reducible refine Abs.Fin.mk ?_
        | refine CallA.pr (spec_DrawChanceOfTiles more) rfl ?_; rintro _ ⟨a, b, m, rfl⟩
        | with_reducible refine BackK.mk ?_
        | with_reducible refine Stop.b ?_
        | with_reducible refine CallA.b ?_))
    cases ht : inTiles a b m
    · have d1 : Pu C F.impl_ChanceOfTiles [.int .i64 a, .int .i64 b, .int .i64 m] (RB 0 0 false) := by have := impl_ChanceOfTiles a b m; unfold mTiles at this; rwa [ht] at this
      have d2 : Pu C F.spec_ChanceOfTiles [.int .i64 a, .int .i64 b, .int .i64 m] (RB 0 0 false) := by have := spec_ChanceOfTiles a b m; unfold mTiles at this; rwa [ht] at this
      try with_reducible refine CallB.mk ?_
      (repeat' ((conv => whnf); first
          | with_reducible refine RunM.go ?_
          | with_reducible refine AwM.go ?_
          | with_reducible refine DrawM.go ?_
          | ((with_reducible apply NormH.go); (focus exact rfl))
          | with_reducible refine NormH.mk ?_
          | with_reducible refine Br.tt ?_
          | with_reducible refine Br.ff ?_
          | with_reducible refine Br.not ?_
          | with_reducible refine Br.and ?_
          | with_reducible refine Br.or ?_
          | with_reducible refine Br.eqSelf ?_
          | with_reducible refine Br.eqTF ?_
          | with_reducible refine Br.eqFT ?_
          | with_reducible refine Br.eqT ?_
          | with_reducible refine Br.eqF ?_
          | with_reducible refine Br.Teq ?_
          | with_reducible refine Br.Feq ?_
          | with_reducible refine Br.beqI ?_
          | with_reducible refine Br.bneI ?_
          | with_reducible refine Br.decT (by omega) ?_
          | with_reducible refine Br.decF (by omega) ?_
          | with_reducible refine Br.isT (by assumption) ?_
          | with_reducible refine Br.isF (by assumption) ?_
          | with_reducible refine Br.dec (fun h => ?_) (fun h => ?_)
          | with_reducible refine Br.mk (fun h => ?_) (fun h => ?_)
          | ((with_reducible refine Side.mk ?cx ?_); case cx => first | omega | assumption | exact rfl)
          | ((with_reducible refine Alt.l (Side.mk ?cx ?_)); case cx => first | omega | (refine ⟨rfl, ?_⟩; simp only [List.length_cons, List.length_nil]; omega) | exact rfl)
          | ((with_reducible refine Alt.r (Side.mk ?cx ?_)); case cx => omega)
          | ((with_reducible refine Ovf.ok ?cx ?_); case cx => first | (unfold inI64; omega) | exact inK64_u8 _ | (simp only [inK, decide_eq_true_eq]; omega))
          | with_reducible apply DrawF.mk
          | with_reducible refine ForH.mk (fun _ => ?_)
          | with_reducible apply DrawR.mk
          | with_reducible apply DrawE.mk
          | with_reducible refine Stop.mk (AWP.drawM [] mixed (by kernel_rfl) ?_)
          | with_reducible exact Abs.Fin.mk ⟨rfl, rfl⟩
          | with_reducible refine Abs.Fin.mk ?_
          | refine CallA.pu d1 rfl rfl ?_
          | refine CallA.pu d2 rfl rfl ?_
          | with_reducible refine BackK.mk ?_
          | with_reducible refine Stop.b ?_
          | with_reducible refine CallA.b ?_))
      exact Tells.eq rfl rfl
    · obtain ⟨x, y, x', y', d1, d2, d3, f1, f2, f3, f4, f5, f6⟩ := tail_facts ht
      try with_reducible refine CallB.mk ?_
      (repeat' ((conv => whnf); first
          | with_reducible refine RunM.go ?_
          | with_reducible refine AwM.go ?_
          | with_reducible refine DrawM.go ?_
          | ((with_reducible apply NormH.go); (focus exact rfl))
          | with_reducible refine NormH.mk ?_
          | with_reducible refine Br.tt ?_
          | with_reducible refine Br.ff ?_
          | with_reducible refine Br.not ?_
          | with_reducible refine Br.and ?_
          | with_reducible refine Br.or ?_
          | with_reducible refine Br.eqSelf ?_
          | with_reducible refine Br.eqTF ?_
          | with_reducible refine Br.eqFT ?_
          | with_reducible refine Br.eqT ?_
          | with_reducible refine Br.eqF ?_
          | with_reducible refine Br.Teq ?_
          | with_reducible refine Br.Feq ?_
          | with_reducible refine Br.beqI ?_
          | with_reducible refine Br.bneI ?_
          | with_reducible refine Br.decT (by omega) ?_
          | with_reducible refine Br.decF (by omega) ?_
          | with_reducible refine Br.isT (by assumption) ?_
          | with_reducible refine Br.isF (by assumption) ?_
          | with_reducible refine Br.dec (fun h => ?_) (fun h => ?_)
          | with_reducible refine Br.mk (fun h => ?_) (fun h => ?_)
          | ((with_reducible refine Side.mk ?cx ?_); case cx => first | omega | assumption | exact rfl)
          | ((with_reducible refine Alt.l (Side.mk ?cx ?_)); case cx => first | omega | (refine ⟨rfl, ?_⟩; simp only [List.length_cons, List.length_nil]; omega) | exact rfl)
          | ((with_reducible refine Alt.r (Side.mk ?cx ?_)); case cx => omega)
          | ((with_reducible refine Ovf.ok ?cx ?_); case cx => first | (unfold inI64; omega) | exact inK64_u8 _ | (simp only [inK, decide_eq_true_eq]; omega))
          | with_reducible apply DrawF.mk
          | with_reducible refine ForH.mk (fun _ => ?_)
          | with_reducible apply DrawR.mk
          | with_reducible apply DrawE.mk
          | with_reducible refine Stop.mk (AWP.drawM [] mixed (by kernel_rfl) ?_)
          | with_reducible exact Abs.Fin.mk ⟨rfl, rfl⟩
          | with_reducible refine Abs.Fin.mk ?_
          | refine CallA.pu d1 rfl rfl ?_
          | refine CallA.pu d2 rfl rfl ?_
          | refine CallA.pu (d3 (by omega)) rfl rfl ?_
          | with_reducible refine BackK.mk ?_
          | with_reducible refine Stop.b ?_
          | with_reducible refine CallA.b ?_))
      all_goals exact Tells.eq rfl rfl
  · obtain ⟨d1, d2, d3, d4⟩ := inDraw_iff.1 hd
    obtain ⟨b1, b2, b3, b4⟩ := tilesN_b d1 d2
    have hcb := cho_b (n := tilesN n) (k := k) (by omega) b4
    have hp := hcb.2 d3 d4
    have hs := sums_eq hd
    have hJ0 := cho_J0 hd
    have hoe := open_eq hd
    have hwo := without_eq hd
    obtain ⟨H, hH⟩ : ∃ B, cho (tilesN n) k = B := ⟨_, rfl⟩
    obtain ⟨J0, hJ⟩ : ∃ B, jus (tilesN n) k (n + 1) 0 = B := ⟨_, rfl⟩
    obtain ⟨t1, ht1⟩ : ∃ B, rnum k.toNat (tilesN n).toNat = B := ⟨_, rfl⟩
    obtain ⟨t2, ht2⟩ : ∃ B, rden k.toNat (tilesN n).toNat = B := ⟨_, rfl⟩
    obtain ⟨m1, hm1⟩ : ∃ B, rnum (k * (n + 1)).toNat (tilesN n).toNat = B := ⟨_, rfl⟩
    obtain ⟨m2, hm2⟩ : ∃ B, rden (k * (n + 1)).toNat (tilesN n).toNat = B := ⟨_, rfl⟩
    have hkn : 0 ≤ k * n ∧ k * n ≤ 168 := ⟨Int.mul_nonneg d3 d1, Int.le_trans (Int.mul_le_mul (c := 28) (d := 6) (by omega) d2 d1 (by omega)) (by decide)⟩
    have hkn1 : 0 ≤ k * (n + 1) ∧ k * (n + 1) ≤ 196 := ⟨Int.mul_nonneg d3 (by omega), Int.le_trans (Int.mul_le_mul (c := 28) (d := 7) (by omega) (by omega) (by omega) (by omega)) (by decide)⟩
    have lm1 : m1 ≤ 196 := by rw [← hm1]; exact Nat.le_trans (rnum_b _ _) (by omega)
    have lm2 : m2 ≤ 28 := by rw [← hm2]; exact Nat.le_trans (rden_b _ _) (by omega)
    rw [hH, hm1, hm2] at hs
    rw [hJ, hH] at hJ0 hoe
    rw [hJ, hH] at hwo
    rw [hH] at hp hcb
    obtain ⟨o1, ho1⟩ : ∃ B, rnum (H - J0) H = B := ⟨_, rfl⟩
    obtain ⟨o2, ho2⟩ : ∃ B, rden (H - J0) H = B := ⟨_, rfl⟩
    obtain ⟨z1, hz1⟩ : ∃ B, rnum J0 H = B := ⟨_, rfl⟩
    obtain ⟨z2, hz2⟩ : ∃ B, rden J0 H = B := ⟨_, rfl⟩
    have c1 : Pu C F.impl_CountHands [.int .i64 n, .int .i64 k] (IB H true) := by have := impl_CountHands n k; rwa [hd, hH] at this
    have c2 : Pu C F.spec_CountHands [.int .i64 n, .int .i64 k] (IB H true) := by have := spec_CountHands n k; rwa [hd, hH] at this
    have c3 : Pu C F.impl_ChanceOfTile [.int .i64 n, .int .i64 k] (RB t1 t2 true) := by have := impl_ChanceOfTile n k; rwa [mTiles_1, hd, RF_t, ht1, ht2] at this
    have c3b : Pu C F.impl_ChanceOfTiles [.int .i64 n, .int .i64 k, .int .i64 1] (RB t1 t2 true) := by have := impl_ChanceOfTiles n k 1; rwa [mTiles_1, hd, RF_t, ht1, ht2] at this
    have c4 : Pu C F.spec_ChanceOfTile [.int .i64 n, .int .i64 k] (RB t1 t2 true) := by have := spec_ChanceOfTile n k; rwa [hd, RF_t, ht1, ht2] at this
    have c5 : Pu C F.impl_DoublesMean [.int .i64 n, .int .i64 k] (RB m1 m2 true) := by have := impl_DoublesMean n k; rwa [hd, RF_t, hm1, hm2] at this
    have c6 : Pu C F.spec_DoublesMean [.int .i64 n, .int .i64 k] (RB m1 m2 true) := by have := spec_DoublesMean n k; rwa [hd, RF_t, hm1, hm2] at this
    have c7 : Pu C F.impl_PipsMean [.int .i64 n, .int .i64 k] (RB (k * n) 1 true) := by have := impl_PipsMean n k; rwa [hd] at this
    have c8 : Pu C F.spec_PipsMean [.int .i64 n, .int .i64 k] (RB (k * n) 1 true) := by have := spec_PipsMean n k; rwa [hd] at this
    have c9 : Pu C F.impl_ChanceOfOpening [.int .i64 n, .int .i64 k] (RB o1 o2 true) := by have := impl_ChanceOfOpening n k; rwa [RO_eq, hd, RF_t, ← hoe.2.2, hH, ho1, ho2] at this
    have c10 : Pu C F.spec_ChanceOfOpening [.int .i64 n, .int .i64 k] (RB o1 o2 true) := by have := spec_ChanceOfOpening n k; rwa [hd, RF_t, ← hoe.2.2, hH, ho1, ho2] at this
    have c11 : Pr C F.impl_LikeliestPips [.int .i64 n, .int .i64 k] fun v => ∃ m : Nat, v = IB m true ∧ m ≤ 168 ∧ 1 ≤ cnt n k m ∧ (∀ s : Nat, cnt n k s ≤ cnt n k m) ∧ ∀ s : Nat, s < m → cnt n k s < cnt n k m := by
      refine (impl_LikeliestPips n k).imp ?_
      rintro _ ⟨i, rfl, -, h⟩
      obtain ⟨m, rfl, h1, h2, h3⟩ := h hd
      rw [hd]
      exact ⟨m, rfl, likely_facts hd (by have := (most_small n.toNat (by omega)).1; omega) h2 h3⟩
    have c12 : Pr C F.spec_LikeliestPips [.int .i64 n, .int .i64 k] fun v => ∃ m : Nat, v = IB m true ∧ m ≤ 168 ∧ 1 ≤ cnt n k m ∧ (∀ s : Nat, cnt n k s ≤ cnt n k m) ∧ ∀ s : Nat, s < m → cnt n k s < cnt n k m := by
      refine (spec_LikeliestPips n k).imp ?_
      rintro _ ⟨i, rfl, -, h⟩
      obtain ⟨m, rfl, h1, h2, h3⟩ := h hd
      rw [hd]
      exact ⟨m, rfl, likely_facts hd (Nat.le_refl _) h2 h3⟩
    try with_reducible refine CallB.mk ?_
    (repeat' ((conv => whnf); first
        | with_reducible refine RunM.go ?_
        | with_reducible refine AwM.go ?_
        | with_reducible refine DrawM.go ?_
        | ((with_reducible apply NormH.go); (focus exact rfl))
        | with_reducible refine NormH.mk ?_
        | with_reducible refine Br.tt ?_
        | with_reducible refine Br.ff ?_
        | with_reducible refine Br.not ?_
        | with_reducible refine Br.and ?_
        | with_reducible refine Br.or ?_
        | with_reducible refine Br.eqSelf ?_
        | with_reducible refine Br.eqTF ?_
        | with_reducible refine Br.eqFT ?_
        | with_reducible refine Br.eqT ?_
        | with_reducible refine Br.eqF ?_
        | with_reducible refine Br.Teq ?_
        | with_reducible refine Br.Feq ?_
        | with_reducible refine Br.beqI ?_
        | with_reducible refine Br.bneI ?_
        | with_reducible refine Br.decT (by omega) ?_
        | with_reducible refine Br.decF (by omega) ?_
        | with_reducible refine Br.isT (by assumption) ?_
        | with_reducible refine Br.isF (by assumption) ?_
        | with_reducible refine Br.dec (fun h => ?_) (fun h => ?_)
        | with_reducible refine Br.mk (fun h => ?_) (fun h => ?_)
        | ((with_reducible refine Side.mk ?cx ?_); case cx => first | omega | assumption | exact rfl)
        | ((with_reducible refine Alt.l (Side.mk ?cx ?_)); case cx => first | omega | (refine ⟨rfl, ?_⟩; simp only [List.length_cons, List.length_nil]; omega) | exact rfl)
        | ((with_reducible refine Alt.r (Side.mk ?cx ?_)); case cx => omega)
        | ((with_reducible refine Ovf.ok ?cx ?_); case cx => first | (unfold inI64; omega) | exact inK64_u8 _ | (simp only [inK, decide_eq_true_eq]; omega))
        | with_reducible apply DrawF.mk
        | with_reducible refine ForH.mk (fun _ => ?_)
        | with_reducible apply DrawR.mk
        | with_reducible apply DrawE.mk
        | with_reducible refine Stop.mk (AWP.drawM [] mixed (by kernel_rfl) ?_)
        | with_reducible exact Abs.Fin.mk ⟨rfl, rfl⟩
        | with_reducible refine Abs.Fin.mk ?_
        | refine CallA.pu c1 rfl rfl ?_
        | refine CallA.pu c2 rfl rfl ?_
        | refine CallA.pu c3 rfl rfl ?_
        | refine CallA.pu c4 rfl rfl ?_
        | refine CallA.pu c5 rfl rfl ?_
        | refine CallA.pu c6 rfl rfl ?_
        | refine CallA.pu c7 rfl rfl ?_
        | refine CallA.pu c8 rfl rfl ?_
        | refine CallA.pu c9 rfl rfl ?_
        | refine CallA.pu c10 rfl rfl ?_
        | refine CallA.pr c11 rfl ?_; rintro _ ⟨l, rfl, l1, l2, l3, l4⟩
        | with_reducible refine BackK.mk ?_
        | with_reducible refine Stop.b ?_
        | with_reducible refine CallA.b ?_))
    try with_reducible refine CallB.mk ?_
    (repeat' ((conv => whnf); first
        | with_reducible refine RunM.go ?_
        | with_reducible refine AwM.go ?_
        | with_reducible refine DrawM.go ?_
        | ((with_reducible apply NormH.go); (focus exact rfl))
        | with_reducible refine NormH.mk ?_
        | with_reducible refine Br.tt ?_
        | with_reducible refine Br.ff ?_
        | with_reducible refine Br.not ?_
        | with_reducible refine Br.and ?_
        | with_reducible refine Br.or ?_
        | with_reducible refine Br.eqSelf ?_
        | with_reducible refine Br.eqTF ?_
        | with_reducible refine Br.eqFT ?_
        | with_reducible refine Br.eqT ?_
        | with_reducible refine Br.eqF ?_
        | with_reducible refine Br.Teq ?_
        | with_reducible refine Br.Feq ?_
        | with_reducible refine Br.beqI ?_
        | with_reducible refine Br.bneI ?_
        | with_reducible refine Br.decT (by omega) ?_
        | with_reducible refine Br.decF (by omega) ?_
        | with_reducible refine Br.isT (by assumption) ?_
        | with_reducible refine Br.isF (by assumption) ?_
        | with_reducible refine Br.dec (fun h => ?_) (fun h => ?_)
        | with_reducible refine Br.mk (fun h => ?_) (fun h => ?_)
        | ((with_reducible refine Side.mk ?cx ?_); case cx => first | omega | assumption | exact rfl)
        | ((with_reducible refine Alt.l (Side.mk ?cx ?_)); case cx => first | omega | (refine ⟨rfl, ?_⟩; simp only [List.length_cons, List.length_nil]; omega) | exact rfl)
        | ((with_reducible refine Alt.r (Side.mk ?cx ?_)); case cx => omega)
        | ((with_reducible refine Ovf.ok ?cx ?_); case cx => first | (unfold inI64; omega) | exact inK64_u8 _ | (simp only [inK, decide_eq_true_eq]; omega))
        | with_reducible apply DrawF.mk
        | with_reducible refine ForH.mk (fun _ => ?_)
        | with_reducible apply DrawR.mk
        | with_reducible apply DrawE.mk
        | with_reducible refine Stop.mk (AWP.drawM [] mixed (by kernel_rfl) ?_)
        | with_reducible exact Abs.Fin.mk ⟨rfl, rfl⟩
        | with_reducible refine Abs.Fin.mk ?_
        | refine CallA.pr c12 rfl ?_; rintro _ ⟨l', rfl, l1', l2', l3', l4'⟩; obtain rfl := least_eq (f := fun s => cnt n k s) l3 l4 l3' l4'; clear l1' l2' l3' l4' c1 c2 c3 c4 c5 c6 c7 c8 c9 c10 c11 c12
        | with_reducible refine BackK.mk ?_
        | with_reducible refine Stop.b ?_
        | with_reducible refine CallA.b ?_))
    have hSm : ∀ i : Nat, (i : Int) ≤ n + 2 → sumJ n k i ≤ H ∧ sumW n k i ≤ 8 * H := fun i hi => by
      have h1 : sumJ n k i ≤ sumJ n k (n + 2).toNat := sumJ_mono n k (by omega)
      have h2 := sumW_b n k d2 i hi
      omega
    refine .mk <| AWP.loopK [0, 1, 2, 3, 4, 5, 6, 7] [1, 5, 6, 7, 11, 15, 19, 23, 27] _ rfl (α := Nat) (fun i => (i : Int) ≤ n + 2) (fun i => [(31, .int .i64 (sumJ n k i)), (32, .int .i64 (sumW n k i)), (33, .int .i64 i)]) (fun _ => [.box [.int .i64 t1, .int .i64 t2], .box [.int .i64 t1, .int .i64 t2], .box [.int .i64 m1, .int .i64 m2], .box [.int .i64 m1, .int .i64 m2], .box [.int .i64 (k * n), .int .i64 1], .box [.int .i64 (k * n), .int .i64 1], .box [.int .i64 o1, .int .i64 o2], .box [.int .i64 o1, .int .i64 o2]]) (fun i => (n + 2).toNat - i) (0) ?_ [0, 1, 2, 3, 4, 5, 6, 7] (Ren.mkK ?_ (by (repeat' (first | exact trivial | (refine And.intro ?_ ?_) | with_reducible rfl | exact congrArg (fun x => some (AV.int .i64 x)) (by omega) | rfl))) ?_ rfl rfl rfl rfl) ?_
    · show ((0 : Nat) : Int) ≤ n + 2; omega
    · (repeat' (first | exact trivial | (refine And.intro ?_ ?_) | with_reducible rfl | exact congrArg (fun x => some (AV.int .i64 x)) (by omega) | rfl))
    · (repeat' (first | exact trivial | (refine And.intro ?_ ?_) | with_reducible rfl | exact congrArg (fun x => some (AV.int .i64 x)) (by omega) | rfl))
    intro i hi
    have hi : (i : Int) ≤ n + 2 := hi
    dsimp only [appE, AV.ren, renL]
    obtain ⟨J, hJi⟩ : ∃ J, jus (tilesN n) k (n + 1) i = J := ⟨_, rfl⟩
    obtain ⟨x1, hx1⟩ : ∃ B, rnum J H = B := ⟨_, rfl⟩
    obtain ⟨x2, hx2⟩ : ∃ B, rden J H = B := ⟨_, rfl⟩
    have hSi := hSm i hi
    have e1 : sumJ n k (i + 1) = sumJ n k i + J := by rw [← hJi]; rfl
    have e2 : sumW n k (i + 1) = sumW n k i + i * J := by rw [← hJi]; rfl
    have hJb : i < (n + 2).toNat → J ≤ H ∧ sumJ n k i + J ≤ H ∧ sumW n k i + i * J ≤ 8 * H := fun h => by
      have := hSm (i + 1) (by omega)
      omega
    have a1 : (i : Int) ≤ n + 1 → Pu C F.impl_ChanceOfDoubles [.int .i64 n, .int .i64 k, .int .i64 i] (RB x1 x2 true) := fun h => by
      have := impl_ChanceOfDoubles n k i
      rwa [inDbl_iff.2 ⟨hd, by omega, h⟩, hJi, hH, RF_t, hx1, hx2] at this
    have a2 : (i : Int) ≤ n + 1 → Pu C F.impl_ChanceOfTimes [.int .i64 n, .int .i64 k, .int .i64 i] (RB x1 x2 true) := fun h => by
      have := impl_ChanceOfTimes n k i
      rwa [inDbl_iff.2 ⟨hd, by omega, h⟩, hJi, hH, RF_t, hx1, hx2] at this
    have a3 : J ≤ H → Pu C F.laws_iTimes [.agg [.int .i64 x1, .int .i64 x2], .int .i64 H] (.int .i64 J) := fun h => by rw [← hx1, ← hx2]; exact iT hp hcb.1 (by omega)
    have e3 : (i : Int) * (J : Int) = ((i * J : Nat) : Int) := by rw [Int.natCast_mul]
    try with_reducible refine CallB.mk ?_
    (repeat' ((conv => whnf); first
        | with_reducible refine RunM.go ?_
        | with_reducible refine AwM.go ?_
        | with_reducible refine DrawM.go ?_
        | ((with_reducible apply NormH.go); (focus exact rfl))
        | with_reducible refine NormH.mk ?_
        | with_reducible refine Br.tt ?_
        | with_reducible refine Br.ff ?_
        | with_reducible refine Br.not ?_
        | with_reducible refine Br.and ?_
        | with_reducible refine Br.or ?_
        | with_reducible refine Br.eqSelf ?_
        | with_reducible refine Br.eqTF ?_
        | with_reducible refine Br.eqFT ?_
        | with_reducible refine Br.eqT ?_
        | with_reducible refine Br.eqF ?_
        | with_reducible refine Br.Teq ?_
        | with_reducible refine Br.Feq ?_
        | with_reducible refine Br.beqI ?_
        | with_reducible refine Br.bneI ?_
        | with_reducible refine Br.decT (by omega) ?_
        | with_reducible refine Br.decF (by omega) ?_
        | with_reducible refine Br.isT (by assumption) ?_
        | with_reducible refine Br.isF (by assumption) ?_
        | with_reducible refine Br.dec (fun h => ?_) (fun h => ?_)
        | with_reducible refine Br.mk (fun h => ?_) (fun h => ?_)
        | ((with_reducible refine Side.mk ?cx ?_); case cx => first | omega | assumption | exact rfl)
        | ((with_reducible refine Alt.l (Side.mk ?cx ?_)); case cx => first | omega | (refine ⟨rfl, ?_⟩; simp only [List.length_cons, List.length_nil]; omega) | exact rfl)
        | ((with_reducible refine Alt.r (Side.mk ?cx ?_)); case cx => omega)
        | ((with_reducible refine Ovf.ok ?cx ?_); case cx => first | (unfold inI64; omega) | exact inK64_u8 _ | (simp only [inK, decide_eq_true_eq]; omega))
        | with_reducible apply DrawF.mk
        | with_reducible refine ForH.mk (fun _ => ?_)
        | with_reducible apply DrawR.mk
        | with_reducible apply DrawE.mk
        | with_reducible refine Stop.mk (AWP.drawM [] mixed (by kernel_rfl) ?_)
        | with_reducible exact Abs.Fin.mk ⟨rfl, rfl⟩
        | with_reducible refine Abs.Fin.mk ?_
        | refine CallA.pu (a1 (by omega)) rfl rfl ?_
        | refine CallA.pu (a2 (by omega)) rfl rfl ?_
        | refine CallA.pu (a3 (by have := hJb (by omega); omega)) rfl rfl ?_
        | refine Ovf.ok (by have := hJb (by omega); rw [e3]; unfold inI64; omega) ?_
        | refine Ovf.ok (by have := hJb (by omega); unfold inI64; omega) ?_
        | with_reducible refine BackK.mk ?_
        | with_reducible refine Stop.b ?_
        | with_reducible refine CallA.b ?_))
    · have hlt : i < (n + 2).toNat := by omega
      refine BackB.mk (i + 1) [0, 1, 2, 3, 4, 5, 6, 7] ?_ ?_ ?_ (by (repeat' (first | exact trivial | (refine And.intro ?_ ?_) | with_reducible rfl | exact congrArg (fun x => some (AV.int .i64 x)) (by omega) | rfl))) ?_ rfl rfl rfl rfl
      all_goals try dsimp only
      all_goals try omega
      all_goals try (repeat' (first | exact trivial | (refine And.intro ?_ ?_) | with_reducible rfl | exact congrArg (fun x => some (AV.int .i64 x)) (by omega) | rfl))
    · have hil : i = (n + 2).toNat := by omega
      have hS : sumJ n k i = H := by rw [hil]; exact hs.1
      have hW : m1 * H = sumW n k i * m2 := by rw [hil]; exact hs.2
      obtain ⟨W, hWW⟩ : ∃ W, sumW n k i = W := ⟨_, rfl⟩
      rw [hWW] at hSi hW
      rw [hS, hWW]
      have hW' : (m1 : Int) * H = (W : Int) * m2 := by exact_mod_cast hW
      have hWb : (W : Int) * m2 ≤ 22400000000 := by
        have : W * m2 ≤ 800000000 * 28 := Nat.mul_le_mul (by omega) (by omega)
        exact Int.le_trans (Int.ofNat_le.2 this) (by decide)
      have hWc : (0 : Int) ≤ (W : Int) * m2 := Int.mul_nonneg (by omega) (by omega)
      have r1 : Pu C F.impl_ChanceOfDoubles [.int .i64 n, .int .i64 k, .int .i64 0] (RB z1 z2 true) := by
        have := impl_ChanceOfDoubles n k 0
        rwa [inDbl_iff.2 ⟨hd, by omega, by omega⟩, hJ, hH, RF_t, hz1, hz2] at this
      have r2 : Pu C F.impl_ChanceWithout [.int .i64 n, .int .i64 k, .int .i64 0] (RB 1 1 true) := by
        have := impl_ChanceWithout n k 0
        rwa [inDbl_iff.2 ⟨hd, by omega, by omega⟩, hwo.1, hH, RF_t, rn_self hp, rd_self hp] at this
      have r3 : Pu C F.impl_ChanceWithout [.int .i64 n, .int .i64 k, .int .i64 1] (RB z1 z2 true) := by
        have := impl_ChanceWithout n k 1
        rwa [inDbl_iff.2 ⟨hd, by omega, by omega⟩, hwo.2, hH, RF_t, hz1, hz2] at this
      have r4 : Pu C F.impl_ChanceOfTimes [.int .i64 n, .int .i64 k, .int .i64 0] (RB z1 z2 true) := by
        have := impl_ChanceOfTimes n k 0
        rwa [inDbl_iff.2 ⟨hd, by omega, by omega⟩, hJ, hH, RF_t, hz1, hz2] at this
      have r5 : Pu C F.laws_iTimes [.agg [.int .i64 z1, .int .i64 z2], .int .i64 H] (.int .i64 J0) := by rw [← hz1, ← hz2]; exact iT hp hcb.1 (by omega)
      have r6 : Pu C F.laws_iTimes [.agg [.int .i64 o1, .int .i64 o2], .int .i64 H] (.int .i64 (H - J0 : Nat)) := by rw [← ho1, ← ho2]; exact iT hp hcb.1 (by omega)
      have hip : ∀ s : Nat, s ≤ 1000 → inPips n k s = true := fun s hs => inPips_iff.2 ⟨hd, by omega, by omega⟩
      have q : ∀ s : Nat, s ≤ 1000 → Pu C F.impl_CountWithPips [.int .i64 n, .int .i64 k, .int .i64 s] (IB (cnt n k s) true) := fun s hs => by
        have := impl_CountWithPips n k s
        rwa [hip s hs] at this
      have r7 := q l (by omega)
      have r8 : Pu C F.impl_CountWithPips [.int .i64 n, .int .i64 k, .int .i64 (l + 1)] (IB (cnt n k (l + 1)) true) := q (l + 1) (by omega)
      have r9 : cnt n k (l + 1) ≤ cnt n k l := l3 (l + 1)
      try with_reducible refine CallB.mk ?_
      (repeat' ((conv => whnf); first
          | with_reducible refine RunM.go ?_
          | with_reducible refine AwM.go ?_
          | with_reducible refine DrawM.go ?_
          | ((with_reducible apply NormH.go); (focus exact rfl))
          | with_reducible refine NormH.mk ?_
          | with_reducible refine Br.tt ?_
          | with_reducible refine Br.ff ?_
          | with_reducible refine Br.not ?_
          | with_reducible refine Br.and ?_
          | with_reducible refine Br.or ?_
          | with_reducible refine Br.eqSelf ?_
          | with_reducible refine Br.eqTF ?_
          | with_reducible refine Br.eqFT ?_
          | with_reducible refine Br.eqT ?_
          | with_reducible refine Br.eqF ?_
          | with_reducible refine Br.Teq ?_
          | with_reducible refine Br.Feq ?_
          | with_reducible refine Br.beqI ?_
          | with_reducible refine Br.bneI ?_
          | with_reducible refine Br.decT (by omega) ?_
          | with_reducible refine Br.decF (by omega) ?_
          | with_reducible refine Br.isT (by assumption) ?_
          | with_reducible refine Br.isF (by assumption) ?_
          | with_reducible refine Br.dec (fun h => ?_) (fun h => ?_)
          | with_reducible refine Br.mk (fun h => ?_) (fun h => ?_)
          | ((with_reducible refine Side.mk ?cx ?_); case cx => first | omega | assumption | exact rfl)
          | ((with_reducible refine Alt.l (Side.mk ?cx ?_)); case cx => first | omega | (refine ⟨rfl, ?_⟩; simp only [List.length_cons, List.length_nil]; omega) | exact rfl)
          | ((with_reducible refine Alt.r (Side.mk ?cx ?_)); case cx => omega)
          | ((with_reducible refine Ovf.ok ?cx ?_); case cx => first | (unfold inI64; omega) | exact inK64_u8 _ | (simp only [inK, decide_eq_true_eq]; omega))
          | with_reducible apply DrawF.mk
          | with_reducible refine ForH.mk (fun _ => ?_)
          | with_reducible apply DrawR.mk
          | with_reducible apply DrawE.mk
          | with_reducible refine Stop.mk (AWP.drawM [] mixed (by kernel_rfl) ?_)
          | with_reducible exact Abs.Fin.mk ⟨rfl, rfl⟩
          | with_reducible refine Abs.Fin.mk ?_
          | refine CallA.pu r1 rfl rfl ?_
          | refine CallA.pu c3b rfl rfl ?_
          | refine CallA.pu r2 rfl rfl ?_
          | refine CallA.pu r3 rfl rfl ?_
          | refine CallA.pu r4 rfl rfl ?_
          | refine CallA.pu r5 rfl rfl ?_
          | refine CallA.pu r6 rfl rfl ?_
          | refine CallA.pu r7 rfl rfl ?_
          | refine CallA.pu r8 rfl rfl ?_
          | with_reducible refine BackK.mk ?_
          | with_reducible refine Stop.b ?_
          | with_reducible refine CallA.b ?_))
      · have hn3 : n ≤ 3 := by omega
        clear r1 r2 r3 r4 r5 r6 r7 r8 r9 c3b
        obtain ⟨g1, g2, g3⟩ := small_at hd hn3
        rw [hH] at g1 g2
        have hpos : ∀ s : Nat, 0 ≤ cnt n k s := fun s => (cnt_b n k s hd).1
        have hub : ∀ p : Nat, p ≤ 61 → sumF (fun s => cnt n k s) p ≤ H := fun p hp => by
          rw [← g1]; exact sumF_mono hpos hp
        refine .mk <| AWP.loopK [] [1, 5, 6, 7, 27, 48] _ rfl (α := Nat) (fun p => p ≤ 61) (fun p => [(52, .int .i64 (sumF (fun s => cnt n k s) p)), (53, .int .i64 (sumF (fun s => s * cnt n k s) p)), (54, .int .i64 p)]) (fun _ => []) (fun p => 61 - p) (0) ?_ [] (Ren.mkK ?_ (by (repeat' (first | exact trivial | (refine And.intro ?_ ?_) | with_reducible rfl | exact congrArg (fun x => some (AV.int .i64 x)) (by omega) | rfl))) ?_ rfl rfl rfl rfl) ?_
        · exact Nat.zero_le _
        · (repeat' (first | exact trivial | (refine And.intro ?_ ?_) | with_reducible rfl | exact congrArg (fun x => some (AV.int .i64 x)) (by omega) | rfl))
        · (repeat' (first | exact trivial | (refine And.intro ?_ ?_) | with_reducible rfl | exact congrArg (fun x => some (AV.int .i64 x)) (by omega) | rfl))
        intro p hp61
        have hp61 : p ≤ 61 := hp61
        dsimp only [appE, AV.ren, renL]
        have u1 := sumF_mono hpos (Nat.zero_le p)
        have u2 := hub p hp61
        have u3 : sumF (fun s => cnt n k s) (p + 1) = sumF (fun s => cnt n k s) p + cnt n k p := rfl
        have u4 : sumF (fun s => s * cnt n k s) (p + 1) = sumF (fun s => s * cnt n k s) p + p * cnt n k p := rfl
        have u5 : p < 61 → sumF (fun s => cnt n k s) (p + 1) ≤ H := fun h => hub (p + 1) (by omega)
        have u6 := sumFs_b hpos p hp61
        have u7 : p < 61 → _ := fun h => sumFs_b hpos (p + 1) (by omega)
        have u8 : (0 : Int) ≤ p * cnt n k p := Int.mul_nonneg (by omega) (hpos p)
        have u9 := hpos p
        have v1 := l3 p
        have v2 : (p : Int) < l → cnt n k p < cnt n k l := fun h => l4 p (by omega)
        obtain ⟨y, hy⟩ : ∃ y : Nat, (cnt n k p).toNat = y := ⟨_, rfl⟩
        have hy' : cnt n k p = y := by omega
        have p1 := q p (by omega)
        have p2 := impl_ChanceOfPips n k p cnt_b
        rw [hip p (by omega), hy, hH, RF_t] at p2
        have p3 : y ≤ 100000000 → Pu C F.laws_iTimes [.agg [.int .i64 (rnum y H), .int .i64 (rden y H)], .int .i64 H] (.int .i64 y) := fun h => iT hp hcb.1 h
        rw [hy'] at p1 u3 u4 u8 v1 v2
        obtain ⟨y1, hy1⟩ : ∃ B, rnum y H = B := ⟨_, rfl⟩
        obtain ⟨y2, hy2⟩ : ∃ B, rden y H = B := ⟨_, rfl⟩
        rw [hy1, hy2] at p2 p3
        obtain ⟨S1, hS1⟩ : ∃ B, sumF (fun s => cnt n k s) p = B := ⟨_, rfl⟩
        obtain ⟨S2, hS2⟩ : ∃ B, sumF (fun s => s * cnt n k s) p = B := ⟨_, rfl⟩
        obtain ⟨L, hL⟩ : ∃ B, cnt n k l = B := ⟨_, rfl⟩
        obtain ⟨Z, hZ⟩ : ∃ B : Int, (p : Int) * y = B := ⟨_, rfl⟩
        rw [hS1] at u1 u2 u3
        rw [hS1, hS2] at u6
        rw [hS2] at u4
        rw [u4] at u7
        rw [hZ] at u4 u7 u8
        rw [hL] at v1 v2
        have w1 : ¬ (p : Int) ≤ 60 → S1 = H ∧ S2 = H * k * n := fun h => by
          have : p = 61 := by omega
          subst this
          exact ⟨hS1.symm.trans g1, hS2.symm.trans g2⟩
        have w2 : 0 ≤ (H : Int) * k ∧ (H : Int) * k ≤ 2800000000 := ⟨Int.mul_nonneg (by omega) d3, Int.le_trans (Int.mul_le_mul (c := 100000000) (d := 28) (by omega) (by omega) d3 (by omega)) (by decide)⟩
        have w3 : 0 ≤ (H : Int) * k * n ∧ (H : Int) * k * n ≤ 28000000000 := ⟨Int.mul_nonneg w2.1 d1, Int.le_trans (Int.mul_le_mul (c := 2800000000) (d := 10) w2.2 (by omega) d1 (by omega)) (by decide)⟩
        rw [hS1, hS2, hL]
        try with_reducible refine CallB.mk ?_
        (repeat' ((conv => whnf); first
            | with_reducible refine RunM.go ?_
            | with_reducible refine AwM.go ?_
            | with_reducible refine DrawM.go ?_
            | ((with_reducible apply NormH.go); (focus exact rfl))
            | with_reducible refine NormH.mk ?_
            | with_reducible refine Br.tt ?_
            | with_reducible refine Br.ff ?_
            | with_reducible refine Br.not ?_
            | with_reducible refine Br.and ?_
            | with_reducible refine Br.or ?_
            | with_reducible refine Br.eqSelf ?_
            | with_reducible refine Br.eqTF ?_
            | with_reducible refine Br.eqFT ?_
            | with_reducible refine Br.eqT ?_
            | with_reducible refine Br.eqF ?_
            | with_reducible refine Br.Teq ?_
            | with_reducible refine Br.Feq ?_
            | with_reducible refine Br.beqI ?_
            | with_reducible refine Br.bneI ?_
            | with_reducible refine Br.decT (by omega) ?_
            | with_reducible refine Br.decF (by omega) ?_
            | with_reducible refine Br.isT (by assumption) ?_
            | with_reducible refine Br.isF (by assumption) ?_
            | with_reducible refine Br.dec (fun h => ?_) (fun h => ?_)
            | with_reducible refine Br.mk (fun h => ?_) (fun h => ?_)
            | ((with_reducible refine Side.mk ?cx ?_); case cx => first | omega | assumption | exact rfl)
            | ((with_reducible refine Alt.l (Side.mk ?cx ?_)); case cx => first | omega | (refine ⟨rfl, ?_⟩; simp only [List.length_cons, List.length_nil]; omega) | exact rfl)
            | ((with_reducible refine Alt.r (Side.mk ?cx ?_)); case cx => omega)
            | ((with_reducible refine Ovf.ok ?cx ?_); case cx => first | (unfold inI64; omega) | exact inK64_u8 _ | (simp only [inK, decide_eq_true_eq]; omega))
            | with_reducible apply DrawF.mk
            | with_reducible refine ForH.mk (fun _ => ?_)
            | with_reducible apply DrawR.mk
            | with_reducible apply DrawE.mk
            | with_reducible refine Stop.mk (AWP.drawM [] mixed (by kernel_rfl) ?_)
            | with_reducible exact Abs.Fin.mk ⟨rfl, rfl⟩
            | with_reducible refine Abs.Fin.mk ?_
            | refine CallA.pu p1 rfl rfl ?_
            | refine CallA.pu p2 rfl rfl ?_
            | refine CallA.pu (p3 (by have := u5 (by omega); omega)) rfl rfl ?_
            | refine Ovf.ok (by have := u5 (by omega); have := u7 (by omega); first | (rw [hZ]; unfold inI64; omega) | (unfold inI64; omega)) ?_
            | with_reducible refine BackK.mk ?_
            | with_reducible refine Stop.b ?_
            | with_reducible refine CallA.b ?_))
        · refine BackB.mk (p + 1) [] ?_ ?_ ?_ (by (repeat' (first | exact trivial | (refine And.intro ?_ ?_) | with_reducible rfl | exact congrArg (fun x => some (AV.int .i64 x)) (by omega) | rfl))) ?_ rfl rfl rfl rfl
          all_goals try dsimp only
          all_goals try omega
          all_goals try (repeat' (first | exact trivial | (refine And.intro ?_ ?_) | with_reducible rfl | exact congrArg (fun x => some (AV.int .i64 x)) (by omega) | rfl))
        · refine BackB.mk (p + 1) [] ?_ ?_ ?_ (by (repeat' (first | exact trivial | (refine And.intro ?_ ?_) | with_reducible rfl | exact congrArg (fun x => some (AV.int .i64 x)) (by omega) | rfl))) ?_ rfl rfl rfl rfl
          all_goals try dsimp only
          all_goals try omega
          all_goals try (repeat' (first | exact trivial | (refine And.intro ?_ ?_) | with_reducible rfl | exact congrArg (fun x => some (AV.int .i64 x)) (by omega) | rfl))
        clear u1 u2 u3 u4 u5 u6 u7 u8 u9 v1 v2 w1 w2 w3 p1 p2 p3 g1 g2 hpos hub q hip
        try with_reducible refine CallB.mk ?_
        (repeat' ((conv => whnf); first
            | with_reducible refine RunM.go ?_
            | with_reducible refine AwM.go ?_
            | with_reducible refine DrawM.go ?_
            | ((with_reducible apply NormH.go); (focus exact rfl))
            | with_reducible refine NormH.mk ?_
            | with_reducible refine Br.tt ?_
            | with_reducible refine Br.ff ?_
            | with_reducible refine Br.not ?_
            | with_reducible refine Br.and ?_
            | with_reducible refine Br.or ?_
            | with_reducible refine Br.eqSelf ?_
            | with_reducible refine Br.eqTF ?_
            | with_reducible refine Br.eqFT ?_
            | with_reducible refine Br.eqT ?_
            | with_reducible refine Br.eqF ?_
            | with_reducible refine Br.Teq ?_
            | with_reducible refine Br.Feq ?_
            | with_reducible refine Br.beqI ?_
            | with_reducible refine Br.bneI ?_
            | with_reducible refine Br.decT (by omega) ?_
            | with_reducible refine Br.decF (by omega) ?_
            | with_reducible refine Br.isT (by assumption) ?_
            | with_reducible refine Br.isF (by assumption) ?_
            | with_reducible refine Br.dec (fun h => ?_) (fun h => ?_)
            | with_reducible refine Br.mk (fun h => ?_) (fun h => ?_)
            | ((with_reducible refine Side.mk ?cx ?_); case cx => first | omega | assumption | exact rfl)
            | ((with_reducible refine Alt.l (Side.mk ?cx ?_)); case cx => first | omega | (refine ⟨rfl, ?_⟩; simp only [List.length_cons, List.length_nil]; omega) | exact rfl)
            | ((with_reducible refine Alt.r (Side.mk ?cx ?_)); case cx => omega)
            | ((with_reducible refine Ovf.ok ?cx ?_); case cx => first | (unfold inI64; omega) | exact inK64_u8 _ | (simp only [inK, decide_eq_true_eq]; omega))
            | with_reducible apply DrawF.mk
            | with_reducible refine ForH.mk (fun _ => ?_)
            | with_reducible apply DrawR.mk
            | with_reducible apply DrawE.mk
            | with_reducible refine Stop.mk (AWP.drawM [] mixed (by kernel_rfl) ?_)
            | with_reducible exact Abs.Fin.mk ⟨rfl, rfl⟩
            | with_reducible refine Abs.Fin.mk ?_
            | refine CallA.pr (spec_DrawChanceOfTiles more) rfl ?_; rintro _ ⟨a, b, m, rfl⟩
            | with_reducible refine BackK.mk ?_
            | with_reducible refine Stop.b ?_
            | with_reducible refine CallA.b ?_))
        cases ht : inTiles a b m
        · have d1 : Pu C F.impl_ChanceOfTiles [.int .i64 a, .int .i64 b, .int .i64 m] (RB 0 0 false) := by have := impl_ChanceOfTiles a b m; unfold mTiles at this; rwa [ht] at this
          have d2 : Pu C F.spec_ChanceOfTiles [.int .i64 a, .int .i64 b, .int .i64 m] (RB 0 0 false) := by have := spec_ChanceOfTiles a b m; unfold mTiles at this; rwa [ht] at this
          try with_reducible refine CallB.mk ?_
          (repeat' ((conv => whnf); first
              | with_reducible refine RunM.go ?_
              | with_reducible refine AwM.go ?_
              | with_reducible refine DrawM.go ?_
              | ((with_reducible apply NormH.go); (focus exact rfl))
              | with_reducible refine NormH.mk ?_
              | with_reducible refine Br.tt ?_
              | with_reducible refine Br.ff ?_
              | with_reducible refine Br.not ?_
              | with_reducible refine Br.and ?_
              | with_reducible refine Br.or ?_
              | with_reducible refine Br.eqSelf ?_
              | with_reducible refine Br.eqTF ?_
              | with_reducible refine Br.eqFT ?_
              | with_reducible refine Br.eqT ?_
              | with_reducible refine Br.eqF ?_
              | with_reducible refine Br.Teq ?_
              | with_reducible refine Br.Feq ?_
              | with_reducible refine Br.beqI ?_
              | with_reducible refine Br.bneI ?_
              | with_reducible refine Br.decT (by omega) ?_
              | with_reducible refine Br.decF (by omega) ?_
              | with_reducible refine Br.isT (by assumption) ?_
              | with_reducible refine Br.isF (by assumption) ?_
              | with_reducible refine Br.dec (fun h => ?_) (fun h => ?_)
              | with_reducible refine Br.mk (fun h => ?_) (fun h => ?_)
              | ((with_reducible refine Side.mk ?cx ?_); case cx => first | omega | assumption | exact rfl)
              | ((with_reducible refine Alt.l (Side.mk ?cx ?_)); case cx => first | omega | (refine ⟨rfl, ?_⟩; simp only [List.length_cons, List.length_nil]; omega) | exact rfl)
              | ((with_reducible refine Alt.r (Side.mk ?cx ?_)); case cx => omega)
              | ((with_reducible refine Ovf.ok ?cx ?_); case cx => first | (unfold inI64; omega) | exact inK64_u8 _ | (simp only [inK, decide_eq_true_eq]; omega))
              | with_reducible apply DrawF.mk
              | with_reducible refine ForH.mk (fun _ => ?_)
              | with_reducible apply DrawR.mk
              | with_reducible apply DrawE.mk
              | with_reducible refine Stop.mk (AWP.drawM [] mixed (by kernel_rfl) ?_)
              | with_reducible exact Abs.Fin.mk ⟨rfl, rfl⟩
              | with_reducible refine Abs.Fin.mk ?_
              | refine CallA.pu d1 rfl rfl ?_
              | refine CallA.pu d2 rfl rfl ?_
              | with_reducible refine BackK.mk ?_
              | with_reducible refine Stop.b ?_
              | with_reducible refine CallA.b ?_))
          exact Tells.eq rfl rfl
        · obtain ⟨x, y, x', y', d1, d2, d3, f1, f2, f3, f4, f5, f6⟩ := tail_facts ht
          try with_reducible refine CallB.mk ?_
          (repeat' ((conv => whnf); first
              | with_reducible refine RunM.go ?_
              | with_reducible refine AwM.go ?_
              | with_reducible refine DrawM.go ?_
              | ((with_reducible apply NormH.go); (focus exact rfl))
              | with_reducible refine NormH.mk ?_
              | with_reducible refine Br.tt ?_
              | with_reducible refine Br.ff ?_
              | with_reducible refine Br.not ?_
              | with_reducible refine Br.and ?_
              | with_reducible refine Br.or ?_
              | with_reducible refine Br.eqSelf ?_
              | with_reducible refine Br.eqTF ?_
              | with_reducible refine Br.eqFT ?_
              | with_reducible refine Br.eqT ?_
              | with_reducible refine Br.eqF ?_
              | with_reducible refine Br.Teq ?_
              | with_reducible refine Br.Feq ?_
              | with_reducible refine Br.beqI ?_
              | with_reducible refine Br.bneI ?_
              | with_reducible refine Br.decT (by omega) ?_
              | with_reducible refine Br.decF (by omega) ?_
              | with_reducible refine Br.isT (by assumption) ?_
              | with_reducible refine Br.isF (by assumption) ?_
              | with_reducible refine Br.dec (fun h => ?_) (fun h => ?_)
              | with_reducible refine Br.mk (fun h => ?_) (fun h => ?_)
              | ((with_reducible refine Side.mk ?cx ?_); case cx => first | omega | assumption | exact rfl)
              | ((with_reducible refine Alt.l (Side.mk ?cx ?_)); case cx => first | omega | (refine ⟨rfl, ?_⟩; simp only [List.length_cons, List.length_nil]; omega) | exact rfl)
              | ((with_reducible refine Alt.r (Side.mk ?cx ?_)); case cx => omega)
              | ((with_reducible refine Ovf.ok ?cx ?_); case cx => first | (unfold inI64; omega) | exact inK64_u8 _ | (simp only [inK, decide_eq_true_eq]; omega))
              | with_reducible apply DrawF.mk
              | with_reducible refine ForH.mk (fun _ => ?_)
              | with_reducible apply DrawR.mk
              | with_reducible apply DrawE.mk
              | with_reducible refine Stop.mk (AWP.drawM [] mixed (by kernel_rfl) ?_)
              | with_reducible exact Abs.Fin.mk ⟨rfl, rfl⟩
              | with_reducible refine Abs.Fin.mk ?_
              | refine CallA.pu d1 rfl rfl ?_
              | refine CallA.pu d2 rfl rfl ?_
              | refine CallA.pu (d3 (by omega)) rfl rfl ?_
              | with_reducible refine BackK.mk ?_
              | with_reducible refine Stop.b ?_
              | with_reducible refine CallA.b ?_))
          all_goals exact Tells.eq rfl rfl
      clear q hip r1 r2 r3 r4 r5 r6 r7 r8 r9 c3b
      try with_reducible refine CallB.mk ?_
      (repeat' ((conv => whnf); first
          | with_reducible refine RunM.go ?_
          | with_reducible refine AwM.go ?_
          | with_reducible refine DrawM.go ?_
          | ((with_reducible apply NormH.go); (focus exact rfl))
          | with_reducible refine NormH.mk ?_
          | with_reducible refine Br.tt ?_
          | with_reducible refine Br.ff ?_
          | with_reducible refine Br.not ?_
          | with_reducible refine Br.and ?_
          | with_reducible refine Br.or ?_
          | with_reducible refine Br.eqSelf ?_
          | with_reducible refine Br.eqTF ?_
          | with_reducible refine Br.eqFT ?_
          | with_reducible refine Br.eqT ?_
          | with_reducible refine Br.eqF ?_
          | with_reducible refine Br.Teq ?_
          | with_reducible refine Br.Feq ?_
          | with_reducible refine Br.beqI ?_
          | with_reducible refine Br.bneI ?_
          | with_reducible refine Br.decT (by omega) ?_
          | with_reducible refine Br.decF (by omega) ?_
          | with_reducible refine Br.isT (by assumption) ?_
          | with_reducible refine Br.isF (by assumption) ?_
          | with_reducible refine Br.dec (fun h => ?_) (fun h => ?_)
          | with_reducible refine Br.mk (fun h => ?_) (fun h => ?_)
          | ((with_reducible refine Side.mk ?cx ?_); case cx => first | omega | assumption | exact rfl)
          | ((with_reducible refine Alt.l (Side.mk ?cx ?_)); case cx => first | omega | (refine ⟨rfl, ?_⟩; simp only [List.length_cons, List.length_nil]; omega) | exact rfl)
          | ((with_reducible refine Alt.r (Side.mk ?cx ?_)); case cx => omega)
          | ((with_reducible refine Ovf.ok ?cx ?_); case cx => first | (unfold inI64; omega) | exact inK64_u8 _ | (simp only [inK, decide_eq_true_eq]; omega))
          | with_reducible apply DrawF.mk
          | with_reducible refine ForH.mk (fun _ => ?_)
          | with_reducible apply DrawR.mk
          | with_reducible apply DrawE.mk
          | with_reducible refine Stop.mk (AWP.drawM [] mixed (by kernel_rfl) ?_)
          | with_reducible exact Abs.Fin.mk ⟨rfl, rfl⟩
          | with_reducible refine Abs.Fin.mk ?_
          | refine CallA.pr (spec_DrawChanceOfTiles more) rfl ?_; rintro _ ⟨a, b, m, rfl⟩
          | with_reducible refine BackK.mk ?_
          | with_reducible refine Stop.b ?_
          | with_reducible refine CallA.b ?_))
      cases ht : inTiles a b m
      · have d1 : Pu C F.impl_ChanceOfTiles [.int .i64 a, .int .i64 b, .int .i64 m] (RB 0 0 false) := by have := impl_ChanceOfTiles a b m; unfold mTiles at this; rwa [ht] at this
        have d2 : Pu C F.spec_ChanceOfTiles [.int .i64 a, .int .i64 b, .int .i64 m] (RB 0 0 false) := by have := spec_ChanceOfTiles a b m; unfold mTiles at this; rwa [ht] at this
        try with_reducible refine CallB.mk ?_
        (repeat' ((conv => whnf); first
            | with_reducible refine RunM.go ?_
            | with_reducible refine AwM.go ?_
            | with_reducible refine DrawM.go ?_
            | ((with_reducible apply NormH.go); (focus exact rfl))
            | with_reducible refine NormH.mk ?_
            | with_reducible refine Br.tt ?_
            | with_reducible refine Br.ff ?_
            | with_reducible refine Br.not ?_
            | with_reducible refine Br.and ?_
            | with_reducible refine Br.or ?_
            | with_reducible refine Br.eqSelf ?_
            | with_reducible refine Br.eqTF ?_
            | with_reducible refine Br.eqFT ?_
            | with_reducible refine Br.eqT ?_
            | with_reducible refine Br.eqF ?_
            | with_reducible refine Br.Teq ?_
            | with_reducible refine Br.Feq ?_
            | with_reducible refine Br.beqI ?_
            | with_reducible refine Br.bneI ?_
            | with_reducible refine Br.decT (by omega) ?_
            | with_reducible refine Br.decF (by omega) ?_
            | with_reducible refine Br.isT (by assumption) ?_
            | with_reducible refine Br.isF (by assumption) ?_
            | with_reducible refine Br.dec (fun h => ?_) (fun h => ?_)
            | with_reducible refine Br.mk (fun h => ?_) (fun h => ?_)
            | ((with_reducible refine Side.mk ?cx ?_); case cx => first | omega | assumption | exact rfl)
            | ((with_reducible refine Alt.l (Side.mk ?cx ?_)); case cx => first | omega | (refine ⟨rfl, ?_⟩; simp only [List.length_cons, List.length_nil]; omega) | exact rfl)
            | ((with_reducible refine Alt.r (Side.mk ?cx ?_)); case cx => omega)
            | ((with_reducible refine Ovf.ok ?cx ?_); case cx => first | (unfold inI64; omega) | exact inK64_u8 _ | (simp only [inK, decide_eq_true_eq]; omega))
            | with_reducible apply DrawF.mk
            | with_reducible refine ForH.mk (fun _ => ?_)
            | with_reducible apply DrawR.mk
            | with_reducible apply DrawE.mk
            | with_reducible refine Stop.mk (AWP.drawM [] mixed (by kernel_rfl) ?_)
            | with_reducible exact Abs.Fin.mk ⟨rfl, rfl⟩
            | with_reducible refine Abs.Fin.mk ?_
            | refine CallA.pu d1 rfl rfl ?_
            | refine CallA.pu d2 rfl rfl ?_
            | with_reducible refine BackK.mk ?_
            | with_reducible refine Stop.b ?_
            | with_reducible refine CallA.b ?_))
        exact Tells.eq rfl rfl
      · obtain ⟨x, y, x', y', d1, d2, d3, f1, f2, f3, f4, f5, f6⟩ := tail_facts ht
        try with_reducible refine CallB.mk ?_
        (repeat' ((conv => whnf); first
            | with_reducible refine RunM.go ?_
            | with_reducible refine AwM.go ?_
            | with_reducible refine DrawM.go ?_
            | ((with_reducible apply NormH.go); (focus exact rfl))
            | with_reducible refine NormH.mk ?_
            | with_reducible refine Br.tt ?_
            | with_reducible refine Br.ff ?_
            | with_reducible refine Br.not ?_
            | with_reducible refine Br.and ?_
            | with_reducible refine Br.or ?_
            | with_reducible refine Br.eqSelf ?_
            | with_reducible refine Br.eqTF ?_
            | with_reducible refine Br.eqFT ?_
            | with_reducible refine Br.eqT ?_
            | with_reducible refine Br.eqF ?_
            | with_reducible refine Br.Teq ?_
            | with_reducible refine Br.Feq ?_
            | with_reducible refine Br.beqI ?_
            | with_reducible refine Br.bneI ?_
            | with_reducible refine Br.decT (by omega) ?_
            | with_reducible refine Br.decF (by omega) ?_
            | with_reducible refine Br.isT (by assumption) ?_
            | with_reducible refine Br.isF (by assumption) ?_
            | with_reducible refine Br.dec (fun h => ?_) (fun h => ?_)
            | with_reducible refine Br.mk (fun h => ?_) (fun h => ?_)
            | ((with_reducible refine Side.mk ?cx ?_); case cx => first | omega | assumption | exact rfl)
            | ((with_reducible refine Alt.l (Side.mk ?cx ?_)); case cx => first | omega | (refine ⟨rfl, ?_⟩; simp only [List.length_cons, List.length_nil]; omega) | exact rfl)
            | ((with_reducible refine Alt.r (Side.mk ?cx ?_)); case cx => omega)
            | ((with_reducible refine Ovf.ok ?cx ?_); case cx => first | (unfold inI64; omega) | exact inK64_u8 _ | (simp only [inK, decide_eq_true_eq]; omega))
            | with_reducible apply DrawF.mk
            | with_reducible refine ForH.mk (fun _ => ?_)
            | with_reducible apply DrawR.mk
            | with_reducible apply DrawE.mk
            | with_reducible refine Stop.mk (AWP.drawM [] mixed (by kernel_rfl) ?_)
            | with_reducible exact Abs.Fin.mk ⟨rfl, rfl⟩
            | with_reducible refine Abs.Fin.mk ?_
            | refine CallA.pu d1 rfl rfl ?_
            | refine CallA.pu d2 rfl rfl ?_
            | refine CallA.pu (d3 (by omega)) rfl rfl ?_
            | with_reducible refine BackK.mk ?_
            | with_reducible refine Stop.b ?_
            | with_reducible refine CallA.b ?_))
        all_goals exact Tells.eq rfl rfl
