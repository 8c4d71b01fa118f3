/- The law FnChancesOfHands returns true for every two byte slices, and both read afterwards as they read before. Conditions: none. -/
import Derived.Test.YtpignhcdfioldaaChL12
import Derived.Test.YtpignhcdfioldaaRows
import Derived.ProofKit
import Derived.OpenShut
import Derived.ShutString
import Derived.ChangeOld
import Derived.Below

set_option autoImplicit false
set_option maxRecDepth 100000
set_option linter.unusedVariables false
namespace Go.Abs
open Go

/-- All blocks of the world as they are. -/
def immOf (w : World) : Imm := fun b => match w.heap[b]? with
  | some (.cells m _ _) => some m
  | _ => none

theorem WR.start (w : World) : WR (immOf w) [] w [] := by
  refine ⟨rfl, ?_, fun k o B h => by simp at h, fun k k' o o' B B' h => by simp at h, fun k o B h => by simp at h⟩
  intro b m h
  unfold immOf at h
  split at h
  · rename_i m' e fz hh; cases h; exact ⟨e, fz, hh⟩
  · cases h

def bytesOf (zs : List Int) (len : Nat) : List UInt8 := (zs.take len).map fun n => UInt8.ofNat n.toNat

/-- A row of bytes, as the row's reader tells it. -/
def ByteRow (w : World) (a : Option Addr) (len cap : Nat) (zs : List Int) : Prop := (a = none ∧ len = 0 ∧ cap = 0 ∧ zs = []) ∨
    ∃ x, a = some x ∧ len ≤ cap ∧ cap ≤ maxLen ∧ zs.length = cap ∧ (∀ i, i < zs.length → w.cell? (x.add i) = some (.int .u8 (zs.getD i 0))) ∧ ∀ n ∈ zs, (Lit.int .u8 n).wf = true

theorem VR.bytes {w : World} {a : Option Addr} {len cap : Nat} {zs : List Int} (h : ByteRow w a len cap zs) :
    VR (immOf w) [] (.slice a len cap) (.isl .u8 (bytesOf zs len)) ∧ (bytesOf zs len).length ≤ 9223372036854775807 := by
  rcases h with ⟨rfl, rfl, rfl, rfl⟩ | ⟨x, rfl, hl, hm, hz, hc, hw⟩
  · exact ⟨.isl0 .u8 none 0, by simp [bytesOf]⟩
  · have hlen : (bytesOf zs len).length = len := by simp [bytesOf]; omega
    refine ⟨?_, by rw [hlen]; exact Nat.le_trans hl hm⟩
    rcases Nat.eq_zero_or_pos len with h0 | h0
    · subst h0
      have : bytesOf zs 0 = [] := rfl
      rw [this]
      exact .isl0 .u8 _ _
    · obtain ⟨b, o, sp⟩ := x
      have hc0 := hc 0 (by omega)
      have hsp : sp = none := by
        cases sp with
        | none => rfl
        | some s =>
          exfalso
          unfold World.cell? at hc0
          split at hc0
          · have hs : ((⟨b, o, some s⟩ : Addr).add 0).spot.isSome = true := by unfold Addr.add; split <;> simp_all
            rw [if_pos hs] at hc0; cases hc0
          · cases hc0
      subst hsp
      have hadd : ∀ i, (⟨b, o, none⟩ : Addr).add i = ⟨b, o + i, none⟩ := fun i => by unfold Addr.add; split <;> simp_all
      simp only [hadd] at hc
      have hcell : ∃ m e fz, w.heap[b]? = some (.cells m e fz) := by
        have h1 := hc 0 (by omega)
        unfold World.cell? at h1
        split at h1
        · rename_i m e fz hh; exact ⟨m, e, fz, hh⟩
        · cases h1
      obtain ⟨m, e, fz, hh⟩ := hcell
      have hm' : ∀ i, i < zs.length → m[o + i]? = some (.int .u8 (zs.getD i 0)) := fun i hi => by
        have := hc i hi
        unfold World.cell? at this
        rw [hh] at this
        exact this
      have himm : immOf w b = some m := by unfold immOf; rw [hh]
      have hsz : o + len ≤ m.size := by
        have := hm' (len - 1) (by omega)
        have := (Array.getElem?_eq_some_iff.1 this).1
        omega
      have := VR.isl (IM := immOf w) (bs := []) .u8 (bytesOf zs len) b o cap (by omega) m himm (by rw [hlen]; simpa [U.sz] using hsz) (fun i x j c hx hc2 => by
        have hi : i < len := by have := lt_of_getL hx; omega
        have hj : j = 0 := by
          have := lt_of_getL hc2
          simp [enc, AV.cells] at this
          omega
        subst hj
        have hxe : (bytesOf zs len)[i]? = some (UInt8.ofNat (zs.getD i 0).toNat) := by
          unfold bytesOf
          rw [List.getElem?_map, List.getElem?_take, if_pos hi, List.getD_eq_getElem?_getD, List.getElem?_eq_getElem (by omega)]
          rfl
        have hmi := hm' i (by omega)
        have hwi : (Lit.int .u8 (zs.getD i 0)).wf = true := hw _ (by rw [List.getD_eq_getElem?_getD, List.getElem?_eq_getElem (by omega)]; exact List.getElem_mem _)
        generalize zs.getD i 0 = z at hmi hwi hxe
        have hb : 0 ≤ z ∧ z < 256 := by
          have : IntKind.u8.min ≤ z ∧ z ≤ IntKind.u8.max := by simpa [Lit.wf] using hwi
          simp [IntKind.min, IntKind.max, IntKind.signed, IntKind.bits] at this
          omega
        rw [hxe] at hx
        cases hx
        have hc3 : c = .int .u8 z := by
          have : (some (AV.int .u8 ((UInt8.ofNat z.toNat).toNat : Int)) : Option AV) = some c := hc2
          cases this
          congr 1
          simp
          omega
        subst hc3
        show VR (immOf w) [] (m.getD (o + i * 1 + 0) undef) _
        rw [Array.getD_eq_getD_getElem?, Nat.mul_one, Nat.add_zero, hmi]
        exact .int .u8 _)
      rw [hlen] at this
      exact this

theorem Pu.bool {C : Ctx} {g : FuncId} {xs : List AV} {b : Bool} (h : Pu C g xs (.bool b)) {w : World} {vs : Array Value} (hv : VRs (immOf w) [] vs xs) :
    Calls C.P g vs w fun e w' => e = .returned (.bool b) ∧ Go.RowKit.Below w.heap.size w w' := by
  refine (h.2 (immOf w) [] w vs (WR.start w) hv).mono ?_
  rintro e w' ⟨r, IM', bs', H', av, rfl, h1, h2, h3, rfl, rfl⟩
  cases h1
  refine ⟨rfl, h3.os, h3.tape, h3.output, h3.size, fun k hk => ?_⟩
  exact h3.frame k hk fun k o B h => by simp at h
end Go.Abs

namespace Go.Proofs.Ytpignhcdfioldaa
open Go Go.Abs Go.ChangeShapes Go.WideShapes Go.ChangeAt Go.RowKit
theorem fnChancesOfHands_own : ownKnob Try.prog.godebug = none := by kernel_rfl
theorem fnChancesOfHands_laidOut : laidOutB Try.prog = true := by kernel_rfl

theorem fnChancesOfHands_lifted (os : Os) (started : os.Started) (H : Type) (enc : TypeId × Value → H) :
    ReturnsInHanded {} Try.checked os 3 .any (Rows.fnChancesOfHandsSpec.pre6 enc Try.prog Try.f3 Rows.fnChancesOfHandsRow.domain false) (Rows.fnChancesOfHandsSpec.post enc Try.prog Try.f3 false true false false) := by
  refine returnsInHanded_of_change (C := Try.checked) fnChancesOfHands_own started (by kernel_rfl) Try.func3
    (ChangeSpec.witness6 (enc := enc) (C := Try.checked) false ⟨#[], #[.slice none 0 0, .slice none 0 0], []⟩ 8 (by kernel_rfl) (by kernel_rfl) (by kernel_rfl) (by kernel_rfl)) ?_
  intro W base args ds gs before hval0 hW hcnd _
  have hval : ∀ (j : Nat) t v, Try.f3.params[j]? = some t → args[j]? = some v → Value.okWide Try.prog W .any base t v := hval0
  have hW' := hW
  obtain ⟨p, q, hA0, hV, rfl, hfz, hnd⟩ := hW
  have hA : DataW.TrodAll enc Try.prog W 0 (fun _ => true) true Try.f3.params.toList args.toList ds p := hA0
  rw [Try.params3] at hA hval
  obtain ⟨v0, v1, d0, d1, p0, p1, hargs, rfl, rfl, h0, h1⟩ := trodAll_two hA
  obtain rfl : args = #[v0, v1] := by first | exact hargs | (cases args; simp_all)
  obtain ⟨rfl, rfl⟩ := trodVars_none hV
  obtain ⟨a0, len0, cap0, rfl⟩ := okWide_slice Try.underlying22 (hval 0 22 v0 rfl rfl)
  obtain ⟨a1, len1, cap1, rfl⟩ := okWide_slice Try.underlying22 (hval 1 22 v1 rfl rfl)
  have k0 := h0
  have k1 := h1
  have lt0 : ∀ x ∈ p0, x.block < W.heap.size := by obtain ⟨m, hm⟩ := k0; exact DataW.trod_lt m _ _ _ hm
  have lt1 : ∀ x ∈ p1, x.block < W.heap.size := by obtain ⟨m, hm⟩ := k1; exact DataW.trod_lt m _ _ _ hm
  obtain ⟨z0, w0⟩ : ∃ zs, ByteRow W a0 len0 cap0 zs := by
    obtain ⟨fuel, hf⟩ := h0
    rcases open_ints Try.underlying22 Try.underlying5 (by kernel_rfl) hf with ⟨hcs, _⟩ | ⟨x, l, c, zs, hcs, _, hl, hm, hz, _, hcell, hwz⟩
    · simp [Value.cells] at hcs
      obtain ⟨rfl, rfl, rfl⟩ := hcs
      exact ⟨[], .inl ⟨rfl, rfl, rfl, rfl⟩⟩
    · simp [Value.cells] at hcs
      obtain ⟨rfl, rfl, rfl⟩ := hcs
      exact ⟨zs, .inr ⟨_, rfl, hl, hm, by simpa using hz, hcell, hwz⟩⟩
  obtain ⟨z1, w1⟩ : ∃ zs, ByteRow W a1 len1 cap1 zs := by
    obtain ⟨fuel, hf⟩ := h1
    rcases open_ints Try.underlying22 Try.underlying5 (by kernel_rfl) hf with ⟨hcs, _⟩ | ⟨x, l, c, zs, hcs, _, hl, hm, hz, _, hcell, hwz⟩
    · simp [Value.cells] at hcs
      obtain ⟨rfl, rfl, rfl⟩ := hcs
      exact ⟨[], .inl ⟨rfl, rfl, rfl, rfl⟩⟩
    · simp [Value.cells] at hcs
      obtain ⟨rfl, rfl, rfl⟩ := hcs
      exact ⟨zs, .inr ⟨_, rfl, hl, hm, by simpa using hz, hcell, hwz⟩⟩
  clear hA0 hval0
  obtain ⟨x0, y0⟩ := VR.bytes w0
  obtain ⟨x1, y1⟩ := VR.bytes w1
  have hcall := Pu.bool (w := W) (vs := #[.slice a0 len0 cap0, .slice a1 len1 cap1]) (law (bytesOf z0 len0) (bytesOf z1 len1) y0) ⟨rfl, fun j c hj => by
    match j, hj with
    | 0, hj => cases hj; exact x0
    | 1, hj => cases hj; exact x1
    | j + 2, hj => simp at hj⟩
  refine hcall.mono fun e W' ⟨he, bel⟩ => ?_
  subst he
  exact ⟨_, rfl, _, _, _, [], _, [], hW', trodAll_mk1 (shut_bool Try.underlying4 _), (trodAll_cons_mk (Below.trod fnChancesOfHands_laidOut (by kernel_rfl) (of_decide_eq_true (by kernel_rfl)) k0 bel lt0) (trodAll_cons_mk (Below.trod fnChancesOfHands_laidOut (by kernel_rfl) (of_decide_eq_true (by kernel_rfl)) k1 bel lt1) trodAll_mk0)), rfl, bel.frame _, fun h => by cases h⟩

theorem fnChancesOfHands_holds : Rows.FnChancesOfHandsSaid :=
  OpenClaim.holds_of_wide 3 Try.f3 rfl rfl rfl rfl rfl rfl rfl ⟨rfl, rfl, rfl, rfl, rfl⟩ rfl rfl rfl rfl rfl (by kernel_rfl) Try.func3 (by kernel_rfl)
    (of_decide_eq_true (by kernel_rfl)) (by unfold Func.isWrapper; first | (rw [if_pos (by decide +kernel)]; kernel_rfl) | (rw [if_neg (by decide +kernel)]; exact ⟨rfl, rfl⟩))
    (fun os started H enc _ => fnChancesOfHands_lifted os started H enc)
#print axioms fnChancesOfHands_holds
end Go.Proofs.Ytpignhcdfioldaa
