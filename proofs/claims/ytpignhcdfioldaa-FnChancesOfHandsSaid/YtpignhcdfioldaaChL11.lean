import Derived.Test.YtpignhcdfioldaaChL10

set_option autoImplicit false
set_option maxRecDepth 100000
namespace Go.Proofs.Ytpignhcdfioldaa
open Go Go.Abs

theorem cntT_nil : cntT [] = f0 := rfl
theorem cntT_snoc (ts : List Ti) (t : Ti) : cntT (ts ++ [t]) = stp (pipsOf t) (cntT ts) := by unfold cntT; rw [List.foldl_append]; rfl

theorem rev_ind {P : List Ti → Prop} (h0 : P []) (h1 : ∀ ts t, P ts → P (ts ++ [t])) (l : List Ti) : P l := by
  have : ∀ l : List Ti, P l.reverse := by
    intro l
    induction l with
    | nil => exact h0
    | cons a r ih => rw [List.reverse_cons]; exact h1 _ _ ih
  have := this l.reverse
  rwa [List.reverse_reverse] at this

theorem cntT_nn (ts : List Ti) (i s : Nat) : 0 ≤ cntT ts i s := (cntT_b ts i s).1

theorem cntT_one (ts : List Ti) : ∀ k, k ≤ ts.length → ∃ s, 1 ≤ cntT ts k s := by
  induction ts using rev_ind with
  | h0 => intro k hk; exact ⟨0, by simp at hk; subst hk; decide⟩
  | h1 ts t ih =>
    intro k hk
    rw [List.length_append, List.length_singleton] at hk
    rcases Nat.lt_or_ge ts.length k with hlt | hge
    · obtain ⟨s, hs⟩ := ih (k - 1) (by omega)
      refine ⟨s + pipsOf t, ?_⟩
      rw [cntT_snoc]
      unfold stp
      rw [if_pos (by omega), Nat.add_sub_cancel]
      have := cntT_nn ts k (s + pipsOf t)
      omega
    · obtain ⟨s, hs⟩ := ih k hge
      refine ⟨s, ?_⟩
      rw [cntT_snoc]
      unfold stp
      split
      · have := cntT_nn ts (k - 1) (s - pipsOf t); omega
      · exact hs

theorem sumP_snoc (ts : List Ti) (t : Ti) : sumP (ts ++ [t]) = sumP ts + pipsOf t := by unfold sumP; rw [List.map_append, List.sum_append]; simp

/-- No hand has more pips than all tiles. -/
theorem cntT_most (ts : List Ti) : ∀ k s, sumP ts < s → cntT ts k s = 0 := by
  induction ts using rev_ind with
  | h0 => intro k s hs; show f0 k s = 0; unfold f0; rw [if_neg (by omega)]
  | h1 ts t ih =>
    intro k s hs
    rw [sumP_snoc] at hs
    rw [cntT_snoc]
    unfold stp
    split
    · rw [ih k s (by omega), ih (k - 1) (s - pipsOf t) (by omega)]; rfl
    · exact ih k s (by omega)

def sumF (f : Nat → Int) : Nat → Int
  | 0 => 0
  | m + 1 => sumF f m + f m
theorem sumF_add (f g : Nat → Int) : ∀ m, sumF (fun s => f s + g s) m = sumF f m + sumF g m
  | 0 => rfl
  | m + 1 => by simp only [sumF]; rw [sumF_add f g m]; omega
theorem sumF_congr {f g : Nat → Int} : ∀ m, (∀ s, s < m → f s = g s) → sumF f m = sumF g m
  | 0, _ => rfl
  | m + 1, h => by simp only [sumF]; rw [sumF_congr m fun s hs => h s (by omega), h m (by omega)]
theorem sumF_zero {f : Nat → Int} : ∀ m, (∀ s, s < m → f s = 0) → sumF f m = 0
  | 0, _ => rfl
  | m + 1, h => by simp only [sumF]; rw [sumF_zero m fun s hs => h s (by omega), h m (by omega)]; rfl
theorem sumF_shift (f : Nat → Int) (p : Nat) : ∀ m, sumF (fun s => if p ≤ s then f (s - p) else 0) (m + p) = sumF f m
  | 0 => by rw [Nat.zero_add]; exact sumF_zero p fun s hs => if_neg (by omega)
  | m + 1 => by
    rw [show m + 1 + p = (m + p) + 1 by omega]
    simp only [sumF]
    rw [sumF_shift f p m, if_pos (by omega), Nat.add_sub_cancel]
theorem sumF_more {f : Nat → Int} {m : Nat} : ∀ d, (∀ s, m ≤ s → f s = 0) → sumF f (m + d) = sumF f m
  | 0, _ => rfl
  | d + 1, h => by
    show sumF f (m + d) + f (m + d) = _
    rw [sumF_more d h, h _ (by omega), Int.add_zero]
theorem sumF_smul (f : Nat → Int) (c : Int) : ∀ m, sumF (fun s => c * f s) m = c * sumF f m
  | 0 => by simp [sumF]
  | m + 1 => by simp only [sumF]; rw [sumF_smul f c m, Int.mul_add]

/-- How many hands there are, and their pips: counted tile by tile. -/
def allT (ts : List Ti) : Nat → Int := ts.foldl (fun a _ k => if 1 ≤ k then a k + a (k - 1) else a k) (fun k => if k = 0 then 1 else 0)
def stepT (x : (Nat → Int) × (Nat → Int)) (t : Ti) : (Nat → Int) × (Nat → Int) :=
  (fun k => if 1 ≤ k then x.1 k + x.1 (k - 1) else x.1 k, fun k => if 1 ≤ k then x.2 k + (x.2 (k - 1) + pipsOf t * x.1 (k - 1)) else x.2 k)
def bothT (ts : List Ti) : (Nat → Int) × (Nat → Int) := ts.foldl stepT (fun k => if k = 0 then 1 else 0, fun _ => 0)
theorem bothT_snoc (ts : List Ti) (t : Ti) : bothT (ts ++ [t]) = stepT (bothT ts) t := by unfold bothT; rw [List.foldl_append]; rfl

theorem allT_eq (ts : List Ti) : ∀ k M, sumP ts < M → sumF (cntT ts k) M = allT ts k := by
  induction ts using rev_ind with
  | h0 =>
    intro k M hM
    obtain ⟨d, rfl⟩ : ∃ d, M = 1 + d := ⟨M - 1, by simp [sumP] at hM; omega⟩
    rw [sumF_more d fun s hs => by show f0 k s = 0; unfold f0; rw [if_neg (by omega)]]
    show 0 + f0 k 0 = if k = 0 then 1 else 0
    unfold f0
    by_cases h : k = 0 <;> simp [h]
  | h1 ts t ih =>
    intro k M hM
    rw [sumP_snoc] at hM
    have e : allT (ts ++ [t]) k = if 1 ≤ k then allT ts k + allT ts (k - 1) else allT ts k := by unfold allT; rw [List.foldl_append]; rfl
    rw [e, cntT_snoc]
    split
    · rename_i hk
      obtain ⟨d, rfl⟩ : ∃ d, M = d + pipsOf t := ⟨M - pipsOf t, by omega⟩
      rw [← ih k (d + pipsOf t) (by omega), ← ih (k - 1) d (by omega), ← sumF_shift (cntT ts (k - 1)) (pipsOf t) d, ← sumF_add]
      refine sumF_congr _ fun s _ => ?_
      unfold stp
      by_cases h : pipsOf t ≤ s
      · rw [if_pos ⟨hk, h⟩, if_pos h]
      · rw [if_neg (by omega), if_neg h, Int.add_zero]
    · rename_i hk
      rw [← ih k M (by omega)]
      refine sumF_congr _ fun s _ => ?_
      unfold stp
      rw [if_neg (by omega)]
theorem bothT_1 (ts : List Ti) : (bothT ts).1 = allT ts := by
  induction ts using rev_ind with
  | h0 => rfl
  | h1 ts t ih =>
    rw [bothT_snoc]
    have e : allT (ts ++ [t]) = fun k => if 1 ≤ k then allT ts k + allT ts (k - 1) else allT ts k := by unfold allT; rw [List.foldl_append]; rfl
    rw [e]
    unfold stepT
    rw [ih]

theorem pipT_eq (ts : List Ti) : ∀ k M, sumP ts < M → sumF (fun s => s * cntT ts k s) M = (bothT ts).2 k := by
  induction ts using rev_ind with
  | h0 =>
    intro k M hM
    show sumF (fun s => s * f0 k s) M = 0
    refine sumF_zero _ fun s _ => ?_
    unfold f0
    by_cases h : k = 0 ∧ s = 0
    · rw [if_pos h, h.2]; rfl
    · rw [if_neg h, Int.mul_zero]
  | h1 ts t ih =>
    intro k M hM
    rw [sumP_snoc] at hM
    rw [bothT_snoc, cntT_snoc]
    unfold stepT
    dsimp only
    split
    · rename_i hk
      obtain ⟨d, rfl⟩ : ∃ d, M = d + pipsOf t := ⟨M - pipsOf t, by omega⟩
      rw [bothT_1, ← ih k (d + pipsOf t) (by omega), ← ih (k - 1) d (by omega), ← allT_eq ts (k - 1) d (by omega), ← sumF_smul, ← sumF_add,
        ← sumF_shift (fun s => s * cntT ts (k - 1) s + pipsOf t * cntT ts (k - 1) s) (pipsOf t) d, ← sumF_add]
      refine sumF_congr _ fun s _ => ?_
      unfold stp
      by_cases h : pipsOf t ≤ s
      · rw [if_pos ⟨hk, h⟩, if_pos h, ← Int.add_mul, Int.mul_add]
        congr 2
        omega
      · rw [if_neg (by omega), if_neg h, Int.add_zero]
    · rename_i hk
      rw [← ih k M (by omega)]
      refine sumF_congr _ fun s _ => ?_
      unfold stp
      rw [if_neg (by omega)]

theorem small_sums : ∀ n : Nat, n ≤ 3 → ∀ k : Nat, k ≤ 10 → (k : Int) ≤ tilesN n → allT (setN n) k = cho (tilesN n) k ∧ (bothT (setN n)).2 k = cho (tilesN n) k * k * n ∧ sumP (setN n) ≤ 60 := by decide
theorem most_small : ∀ n : Nat, n ≤ 6 → sumP (setN n) ≤ 168 ∧ ((setN n).length : Int) = tilesN n := by decide
end Go.Proofs.Ytpignhcdfioldaa
