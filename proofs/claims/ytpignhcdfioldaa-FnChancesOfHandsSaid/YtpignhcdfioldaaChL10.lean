import Derived.Test.YtpignhcdfioldaaChL9

set_option autoImplicit false
set_option maxRecDepth 100000
namespace Go.Proofs.Ytpignhcdfioldaa
open Go Go.Abs

theorem tilesN_1 {n k : Int} : inTiles n k 1 = inDraw n k := by
  cases h : inDraw n k with
  | false => exact inTiles_f1 h
  | true =>
    obtain ⟨d1, d2, _, _⟩ := inDraw_iff.1 h
    exact inTiles_iff.2 ⟨h, by omega, (tilesN_b d1 d2).2.2.1⟩

theorem mTiles_1 (n k : Int) : mTiles n k 1 = RF (inDraw n k) k.toNat (tilesN n).toNat := by
  unfold mTiles RF
  rw [tilesN_1]
  cases h : inDraw n k with
  | false => rfl
  | true => obtain ⟨e1, e2⟩ := tile_eq h; rw [e1, e2]

theorem open_eq {n k : Int} (hd : inDraw n k = true) : (rden (jus (tilesN n) k (n + 1) 0) (cho (tilesN n) k) : Int) - rnum (jus (tilesN n) k (n + 1) 0) (cho (tilesN n) k) = rnum (cho (tilesN n) k - cho (tilesN n - n - 1) k) (cho (tilesN n) k) ∧
    rden (jus (tilesN n) k (n + 1) 0) (cho (tilesN n) k) = rden (cho (tilesN n) k - cho (tilesN n - n - 1) k) (cho (tilesN n) k) ∧ jus (tilesN n) k (n + 1) 0 = cho (tilesN n - n - 1) k :=
  draw_all (P := fun n k => (rden (jus (tilesN n) k (n + 1) 0) (cho (tilesN n) k) : Int) - rnum (jus (tilesN n) k (n + 1) 0) (cho (tilesN n) k) = rnum (cho (tilesN n) k - cho (tilesN n - n - 1) k) (cho (tilesN n) k) ∧
    rden (jus (tilesN n) k (n + 1) 0) (cho (tilesN n) k) = rden (cho (tilesN n) k - cho (tilesN n - n - 1) k) (cho (tilesN n) k) ∧ jus (tilesN n) k (n + 1) 0 = cho (tilesN n - n - 1) k) (by decide) hd

theorem RO_eq (n k : Int) : RO (inDraw n k) (jus (tilesN n) k (n + 1) 0) (cho (tilesN n) k) = RF (inDraw n k) (cho (tilesN n) k - cho (tilesN n - n - 1) k) (cho (tilesN n) k) := by
  unfold RO RF
  cases h : inDraw n k with
  | false => rfl
  | true =>
    obtain ⟨e1, e2, _⟩ := open_eq h
    unfold ifZ ifI
    dsimp only
    rw [e1, e2]

/-- Sums over all numbers of doubles. -/
def sumJ (n k : Int) : Nat → Nat
  | 0 => 0
  | m + 1 => sumJ n k m + jus (tilesN n) k (n + 1) m
def sumW (n k : Int) : Nat → Nat
  | 0 => 0
  | m + 1 => sumW n k m + m * jus (tilesN n) k (n + 1) m

theorem sums_eq {n k : Int} (hd : inDraw n k = true) : sumJ n k (n + 2).toNat = cho (tilesN n) k ∧ rnum (k * (n + 1)).toNat (tilesN n).toNat * cho (tilesN n) k = sumW n k (n + 2).toNat * rden (k * (n + 1)).toNat (tilesN n).toNat :=
  draw_all (P := fun n k => sumJ n k (n + 2).toNat = cho (tilesN n) k ∧ rnum (k * (n + 1)).toNat (tilesN n).toNat * cho (tilesN n) k = sumW n k (n + 2).toNat * rden (k * (n + 1)).toNat (tilesN n).toNat) (by decide) hd

theorem without_eq {n k : Int} (hd : inDraw n k = true) : jus (tilesN n) k (lef n 0) k = cho (tilesN n) k ∧ jus (tilesN n) k (lef n 1) k = jus (tilesN n) k (n + 1) 0 :=
  draw_all (P := fun n k => jus (tilesN n) k (lef n 0) k = cho (tilesN n) k ∧ jus (tilesN n) k (lef n 1) k = jus (tilesN n) k (n + 1) 0) (by decide) hd

/-- A fraction of a whole, back again. -/
theorem back_eq {a b : Nat} (hb : 0 < b) : 0 < rden a b ∧ b % rden a b = 0 ∧ rnum a b * (b / rden a b) = a := by
  have hg : 0 < Nat.gcd a b := Nat.gcd_pos_of_pos_right _ hb
  obtain ⟨y, hy⟩ := Nat.gcd_dvd_right a b
  obtain ⟨x, hx⟩ := Nat.gcd_dvd_left a b
  have e1 : rden a b = y := by
    unfold rden
    conv => lhs; lhs; rw [hy]
    exact Nat.mul_div_cancel_left _ hg
  have e2 : rnum a b = x := by
    unfold rnum
    conv => lhs; lhs; rw [hx]
    exact Nat.mul_div_cancel_left _ hg
  have hy0 : 0 < y := by
    rcases Nat.eq_zero_or_pos y with h | h
    · rw [h, Nat.mul_zero] at hy; omega
    · exact h
  have e3 : b / y = Nat.gcd a b := by
    conv => lhs; lhs; rw [hy]
    exact Nat.mul_div_cancel _ hy0
  rw [e1, e2, e3]
  refine ⟨hy0, ?_, ?_⟩
  · exact Nat.mod_eq_zero_of_dvd ⟨Nat.gcd a b, by rw [Nat.mul_comm]; exact hy⟩
  · rw [Nat.mul_comm]; exact hx.symm
end Go.Proofs.Ytpignhcdfioldaa
