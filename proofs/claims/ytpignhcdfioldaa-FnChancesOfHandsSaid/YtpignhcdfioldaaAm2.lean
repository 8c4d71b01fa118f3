import Derived.Test.YtpignhcdfioldaaAm1
import Derived.Deep.Upon
import Derived.Laws.BytesArg
import Derived.Laws.IdiomStrings
import Derived.Great.BuildSlice
import Derived.Laws.StructEq

section
set_option autoImplicit false
set_option linter.unusedVariables false
set_option linter.unusedSimpArgs false
namespace Go.Abs
open Go

theorem made_get (z : Array Value) (n i j : Nat) (hj : j < z.size) (hi : i < n) : (madeCells z (n * z.size)).getD (i * z.size + j) undef = z.getD j undef := by
  have hlt : i * z.size + j < n * z.size := by
    have := row_mul (sz := z.size) hi (Nat.le_refl n)
    omega
  unfold madeCells
  have hm : (i * z.size + j) % z.size = j := by
    rw [Nat.add_comm, Nat.add_mul_mod_self_right, Nat.mod_eq_of_lt hj]
  simp [Array.getD_eq_getD_getElem?, hlt, hm, hj]

theorem makeA_ok {C : Ctx} {t : TypeId} {l c : AV} {H : AH} {K : AV → AH → Prop} {IM : Imm} {bs : List Blk} {w : World} {vl vc : Value} (h : makeA C t l c H K) (hw : WR IM bs w H)
    (hl : VR IM bs vl l) (hc : VR IM bs vc c) :
    ∃ r w' bs' H' av, (Instr.makeSlice t vl vc).run C.P w = .ok r w' ∧ VR IM bs' r av ∧ WR IM bs' w' H' ∧ Ext IM bs w H IM bs' w' H' ∧ K av H' := by
  unfold makeA at h
  split at h
  · rename_i e _ _ _ _ hi
    have htt := (C.tyok hi).1.slice rfl
    split at h
    · rename_i i n n' hie
      obtain ⟨ht, hsz⟩ := C.tyok hie
      obtain ⟨inf, z, i1, i2, i3, i4, i5, i6, i7, i8⟩ := ht.inf
      cases hl
      cases hc
      have mkA : Nat.ble i.bytes 65536 = true → (0 ≤ n ∧ n ≤ 1073741824 ∧ n' = n) → (match Nat.beq i.sz 1, i.zero.one with
          | true, true => K (.ref H.length 0 n.toNat) (H ++ [.rowA (List.replicate n.toNat i.zero)])
          | _, _ => False) → ∃ r w' bs' H' av, (Instr.makeSlice t (.int .i64 n) (.int .i64 n')).run C.P w = .ok r w' ∧ VR IM bs' r av ∧ WR IM bs' w' H' ∧ Ext IM bs w H IM bs' w' H' ∧ K av H' := by
        intro hble ⟨h1, h2, h3⟩ hk
        split at hk
        · rename_i hb1 hone
          subst h3
          obtain ⟨m, rfl⟩ := Int.eq_ofNat_of_zero_le h1
          rw [Int.toNat_natCast] at hk
          have hrun := run_make' (P := C.P) htt i1 i4 (by rw [i3]; exact Nat.le_of_ble_eq_true hble) (show m ≤ 1073741824 by omega) w
          have hs1 := Nat.eq_of_beq_eq_true hb1
          have hz1 := i6 IM bs
          have hzc : i.zero.cells = [i.zero] := by
            cases hzz : i.zero <;> rw [hzz] at hone <;> first | rfl | cases hone
          have hzs : z.cells.size = 1 := by rw [i5, hs1]
          obtain ⟨k1, k2, k3⟩ := hz1.cells (by rw [hzc]; simp [hone])
          obtain ⟨g1, g2, g3⟩ := new_rowA (e := e) (fz := (0, 0)) (cur := madeCells z.cells (m * inf.size)) (xs := List.replicate m i.zero) (cap := m) hw (Same.alloc w _)
            (fun b hb => heap_alloc_lt w _ b hb) (Nat.le_refl _) (heap_alloc_eq w _) (.inl (Nat.le_refl _)) (by rw [size_madeCells, i2, hs1, Nat.mul_one]) (by simp) (fun q x hx => by
              have hq := lt_of_getL hx
              simp only [List.length_replicate] at hq
              rw [List.getElem?_replicate, if_pos hq] at hx
              cases hx
              have := made_get z.cells m q 0 (by omega) hq
              rw [hzs] at this
              simp only [Nat.mul_one, Nat.add_zero] at this
              rw [i2, hs1, Nat.mul_one, this]
              exact k2 0 _ (by rw [hzc]; rfl))
          rw [List.length_replicate] at g3
          exact ⟨_, _, _, _, _, hrun, g3, g1, g2, hk⟩
        · exact hk.elim
      split at h
      · rename_i u hble hu
        obtain ⟨⟨h1, h2, h3⟩, hk | hk⟩ := h
        case r => exact mkA hble ⟨h1, h2, h3⟩ hk
        subst h3
        obtain ⟨m, rfl⟩ := Int.eq_ofNat_of_zero_le h1
        rw [Int.toNat_natCast] at hk
        have hrun := run_make' (P := C.P) htt i1 i4 (by rw [i3]; exact Nat.le_of_ble_eq_true hble) (show m ≤ 1073741824 by omega) w
        obtain ⟨u1, u2⟩ := i8 u hu
        have hzs : z.cells.size = u.sz := by rw [i5, u1]
        obtain ⟨g1, g2, g3⟩ := new_row (e := e) (fz := (0, 0)) (cur := madeCells z.cells (m * inf.size)) (u := u) (xs := List.replicate m (dflt u)) (cap := m) hw (Same.alloc w _)
          (fun b hb => heap_alloc_lt w _ b hb) (Nat.le_refl _) (heap_alloc_eq w _) (.inl (Nat.le_refl _)) (by rw [size_madeCells, i2, u1]) (by simp) (fun q x j c hx hc => by
            have hq := lt_of_getL hx
            simp only [List.length_replicate] at hq
            rw [List.getElem?_replicate, if_pos hq] at hx
            cases hx
            have hj := lt_of_getL hc
            rw [enc_cells] at hj
            rw [i2, ← u1, ← hzs, made_get _ _ _ _ (by rw [hzs]; exact hj) hq]
            exact u2 IM bs j c hc)
        rw [List.length_replicate] at g3
        exact ⟨_, _, _, _, _, hrun, g3, g1, g2, hk⟩
      · rename_i hble hu
        exact mkA hble h.c h.k
      · exact h.elim
    · exact h.elim
  · exact h.elim

/-! ### Slices of slices and of strings -/

def loI : Option AV → Option Int
  | none => some 0
  | some (.int .i64 n) => some n
  | _ => none
def hiI (len : Nat) : Option AV → Option Int
  | none => some len
  | some (.int .i64 n) => some n
  | _ => none

/-- An optional operand. -/
def VRo (IM : Imm) (bs : List Blk) : Option Value → Option AV → Prop
  | none, none => True
  | some v, some a => VR IM bs v a
  | _, _ => False

theorem run_bounds {P : Program} {w : World} {IM : Imm} {bs : List Blk} (isS : Bool) (len cap : Nat) {lo hi : Option Value} {lo' hi' : Option AV} {l h : Int} (hlo : loI lo' = some l) (hhi : hiI len hi' = some h)
    (vlo : VRo IM bs lo lo') (vhi : VRo IM bs hi hi') (h0 : 0 ≤ l) (h1 : l ≤ h) (h2 : h ≤ cap) : (Instr.sliceBounds isS len cap lo hi none).run P w = .ok (l.toNat, h.toNat, cap) w := by
  have eh : ((h.toNat : Nat) : Int) = h := by omega
  cases lo' with
  | none =>
    cases lo with
    | some _ => exact vlo.elim
    | none =>
    cases hlo
    cases hi' with
    | none =>
      cases hi with
      | some _ => exact vhi.elim
      | none => cases hhi; simp [Instr.sliceBounds, go_sem]
    | some b =>
      cases hi with
      | none => exact vhi.elim
      | some vb =>
      cases b <;> first | cases hhi | skip
      rename_i k n
      cases k <;> cases hhi
      cases vhi
      cases isS <;> simp [Instr.sliceBounds, go_sem, run_sliceBound, h1, h2]
  | some b =>
    cases lo with
    | none => exact vlo.elim
    | some vb =>
    cases b <;> first | cases hlo | skip
    rename_i k n
    cases k <;> cases hlo
    cases vlo
    cases hi' with
    | none =>
      cases hi with
      | some _ => exact vhi.elim
      | none => cases hhi; simp [Instr.sliceBounds, go_sem, run_sliceBound, h0, h1]
    | some b =>
      cases hi with
      | none => exact vhi.elim
      | some vb =>
      cases b <;> first | cases hhi | skip
      rename_i k n
      cases k <;> cases hhi
      cases vhi
      have : (0 : Int) ≤ h := by omega
      cases isS <;> simp [Instr.sliceBounds, go_sem, run_sliceBound, h0, h1, h2, this, eh]

theorem run_bounds3 {P : Program} {w : World} {IM : Imm} {bs : List Blk} (isS : Bool) (len cap : Nat) {lo : Option Value} {lo' : Option AV} {l h : Int} (hlo : loI lo' = some l)
    (vlo : VRo IM bs lo lo') (h0 : 0 ≤ l) (h1 : l ≤ h) (h2 : h ≤ cap) : (Instr.sliceBounds isS len cap lo (some (.int .i64 h)) (some (.int .i64 h))).run P w = .ok (l.toNat, h.toNat, h.toNat) w := by
  have eh : ((h.toNat : Nat) : Int) = h := by omega
  have hp : (0 : Int) ≤ h := by omega
  cases lo' with
  | none =>
    cases lo with
    | some _ => exact vlo.elim
    | none => cases hlo; cases isS <;> simp [Instr.sliceBounds, go_sem, run_sliceBound, h1, h2, eh]
  | some b =>
    cases lo with
    | none => exact vlo.elim
    | some vb =>
    cases b <;> first | cases hlo | skip
    rename_i k n
    cases k <;> cases hlo
    cases vlo
    cases isS <;> simp [Instr.sliceBounds, go_sem, run_sliceBound, h0, h1, h2, hp, eh]

def elSz (C : Ctx) (t : TypeId) : Option Nat :=
  match C.ty t with
  | some ⟨.slice e, _, _, _, _⟩ => match C.ty e with
    | some i => some i.sz
    | none => none
  | _ => none

theorem elSz_ok {C : Ctx} {t : TypeId} {n : Nat} (h : elSz C t = some n) : ∃ e inf, C.P.underlying t = some (.slice e) ∧ C.P.info? e = some inf ∧ inf.size = n ∧ (∃ i, C.ty e = some i ∧ i.sz = n) := by
  unfold elSz at h
  split at h
  · rename_i e _ _ _ _ hi
    split at h
    · rename_i i hie
      cases h
      obtain ⟨inf, z, i1, i2, _⟩ := (C.tyok hie).1.inf
      exact ⟨e, inf, (C.tyok hi).1.slice rfl, i1, i2, i, hie, rfl⟩
    · cases h
  · cases h

def isStr (C : Ctx) (t : TypeId) : Bool :=
  match C.ty t with
  | some ⟨.str, _, _, _, _⟩ => true
  | _ => false

theorem isStr_ok {C : Ctx} {t : TypeId} (h : isStr C t = true) : C.P.underlying t = some .string := by
  unfold isStr at h
  split at h
  · rename_i hi
    obtain ⟨d, h1, h2⟩ := (C.tyok hi).1.und
    cases d <;> first | exact h2.elim | exact h1
  · cases h

def sliceA (C : Ctx) (t : TypeId) (x : AV) (lo hi mx : Option AV) (H : AH) (K : AV → Prop) : Prop :=
  match x, mx with
  | .str s, none => match isStr C t, loI lo, hiI s.length hi with
    | true, some l, some h => Side (0 ≤ l ∧ l ≤ h ∧ h ≤ s.length) (K (.str ((s.drop l.toNat).take (h.toNat - l.toNat))))
    | _, _, _ => False
  | .isl u xs, none => match elSz C t, loI lo, hiI xs.length hi with
    | some n, some l, some h => Side (n = u.sz) (Side (0 ≤ l ∧ l ≤ h ∧ h ≤ xs.length) (K (.isl u ((xs.drop l.toNat).take (h.toNat - l.toNat)))))
    | _, _, _ => False
  | .isl u xs, some (.int .i64 m) => match elSz C t, loI lo, hi with
    | some n, some l, some (.int .i64 h) => Side (n = u.sz) (Side (0 ≤ l ∧ l ≤ h ∧ h ≤ xs.length ∧ m = h) (K (.fsl u ((xs.drop l.toNat).take (h.toNat - l.toNat)))))
    | _, _, _ => False
  | .ref k off len, none => match elSz C t, loI lo, hiI len hi with
    | some n, some l, some h => match ath H k with
      | some (.row u xs) => Side (n = u.sz) (Side (0 ≤ l ∧ l ≤ h ∧ h.toNat + off ≤ xs.length) (K (.ref k (l.toNat + off) (h.toNat - l.toNat))))
      | some (.rowA xs) => Side (n = 1) (Side (0 ≤ l ∧ l ≤ h ∧ h.toNat + off ≤ xs.length) (K (.ref k (l.toNat + off) (h.toNat - l.toNat))))
      | _ => False
    | _, _, _ => False
  | .ref k off len, some (.int .i64 m) => match elSz C t, loI lo, hi with
    | some n, some l, some (.int .i64 h) => match ath H k with
      | some (.row u xs) => Side (n = u.sz) (Side (0 ≤ l ∧ l = h ∧ h.toNat + off ≤ xs.length ∧ m = h) (K (.fsl u [])))
      | _ => False
    | _, _, _ => False
  | _, _ => False

theorem VR.isl_part {IM : Imm} {bs : List Blk} {u : U} {xs : List (El u)} {a : Option Addr} {len cap l h : Nat} (hv : VR IM bs (.slice a len cap) (.isl u xs)) (hl : l ≤ h) (hh : h ≤ xs.length) (m : Nat)
    (hm : h ≤ m) (hmc : m ≤ cap) :
    VR IM bs (.slice (if m = l then a else a.map (·.add (l * u.sz))) (h - l) (m - l)) (.isl u ((xs.drop l).take (h - l))) ∧
    (m = h → VR IM bs (.slice (if m = l then a else a.map (·.add (l * u.sz))) (h - l) (m - l)) (.fsl u ((xs.drop l).take (h - l)))) := by
  rcases Nat.eq_or_lt_of_le hl with rfl | hlt
  · have e : (xs.drop l).take (l - l) = [] := by simp
    rw [e, Nat.sub_self]
    exact ⟨.isl0 _ _ _, fun e => by subst e; rw [Nat.sub_self]; exact .fsl0 _ _⟩
  · cases hv with
    | isl0 => simp at hh; omega
    | isl _ _ b o c hle mm hmm hb hvv =>
      have hlen : ((xs.drop l).take (h - l)).length = h - l := by simp; omega
      have hne : ¬ m = l := by omega
      have hbound : (o + l * u.sz) + ((xs.drop l).take (h - l)).length * u.sz ≤ mm.size := by
        rw [hlen]
        have : l * u.sz + (h - l) * u.sz = h * u.sz := by rw [← Nat.add_mul]; congr 1; omega
        have := Nat.mul_le_mul_right u.sz hh
        omega
      have hval : ∀ (i : Nat) (x : El u) (j : Nat) (c : AV), ((xs.drop l).take (h - l))[i]? = some x → (enc u x).cells[j]? = some c → VR IM bs (mm.getD ((o + l * u.sz) + i * u.sz + j) undef) c := by
        intro i x j c hx hc
        have hx' : xs[l + i]? = some x := by
          rw [List.getElem?_take] at hx
          split at hx
          · rwa [List.getElem?_drop] at hx
          · cases hx
        have := hvv (l + i) x j c hx' hc
        rwa [Nat.add_mul, ← Nat.add_assoc] at this
      rw [if_neg hne]
      simp only [Option.map_some, add_none]
      refine ⟨?_, fun e => ?_⟩
      · have := VR.isl (IM := IM) (bs := bs) u _ b (o + l * u.sz) (m - l) (by rw [hlen]; omega) mm hmm hbound fun i x j c => hval i x j c
        rwa [hlen] at this
      · subst e
        have := VR.fsl (IM := IM) (bs := bs) u _ b (o + l * u.sz) mm hmm hbound fun i x j c => hval i x j c
        rwa [hlen] at this

theorem VR.isl_cap {IM : Imm} {bs : List Blk} {u : U} {xs : List (El u)} {v : Value} (hv : VR IM bs v (.isl u xs)) : ∃ a c, v = .slice a xs.length c ∧ xs.length ≤ c := by
  cases hv with
  | isl0 _ a c => exact ⟨a, c, rfl, Nat.zero_le _⟩
  | isl _ _ b o c hle => exact ⟨_, c, rfl, hle⟩

theorem VRo.some {IM : Imm} {bs : List Blk} {v : Option Value} {a : AV} (h : VRo IM bs v (some a)) : ∃ x, v = some x ∧ VR IM bs x a := by
  cases v with
  | none => exact h.elim
  | some x => exact ⟨x, rfl, h⟩
theorem VRo.none {IM : Imm} {bs : List Blk} {v : Option Value} (h : VRo IM bs v none) : v = none := by
  cases v with
  | none => rfl
  | some x => exact h.elim

theorem run_sliceAt {P : Program} {w : World} {t e : TypeId} {inf : TypeInfo} (ht : P.underlying t = some (.slice e)) (hi : P.info? e = some inf) {a : Option Addr} {len cap l h m : Nat} {lo hi' mx : Option Value}
    (hb : (Instr.sliceBounds true len cap lo hi' mx).run P w = .ok (l, h, m) w) :
    (Instr.sliceAt t (.slice a len cap) lo hi' mx).run P w = .ok (.slice (if m = l then a else a.map (·.add (l * inf.size))) (h - l) (m - l)) w := by
  have h1 : ∀ f : TypeDesc → Sem Value, (underlying t >>= f).run P w = (f (.slice e)).run P w := fun f => by
    rw [Sem.run_bind, run_underlying ht]; rfl
  have h2 : ∀ f : Nat × Nat × Nat → Sem Value, (Instr.sliceBounds true len cap lo hi' mx >>= f).run P w = (f (l, h, m)).run P w := fun f => by
    rw [Sem.run_bind, hb]; rfl
  have h3 : ∀ f : Nat → Sem Value, (sizeOf e >>= f).run P w = (f inf.size).run P w := fun f => by
    rw [Sem.run_bind, show (sizeOf e).run P w = .ok inf.size w by simp [sizeOf, typeInfo, go_sem, hi]]; rfl
  unfold Instr.sliceAt
  rw [h1]
  dsimp only
  unfold Instr.slice
  rw [h1]
  dsimp only
  rw [h2]
  dsimp only
  rw [h3]
  rfl

theorem run_sliceStr {P : Program} {w : World} {t : TypeId} (ht : P.underlying t = some .string) {s : ByteArray} {l h m : Nat} {lo hi' : Option Value}
    (hb : (Instr.sliceBounds false s.size s.size lo hi' none).run P w = .ok (l, h, m) w) :
    (Instr.sliceAt t (.string s) lo hi' none).run P w = .ok (.string (s.extract l h)) w := by
  have h1 : ∀ f : TypeDesc → Sem Value, (underlying t >>= f).run P w = (f .string).run P w := fun f => by
    rw [Sem.run_bind, run_underlying ht]; rfl
  have h2 : ∀ f : Nat × Nat × Nat → Sem Value, (Instr.sliceBounds false s.size s.size lo hi' none >>= f).run P w = (f (l, h, m)).run P w := fun f => by
    rw [Sem.run_bind, hb]; rfl
  unfold Instr.sliceAt
  rw [h1]
  dsimp only
  unfold Instr.slice
  rw [h1]
  dsimp only
  simp only [Option.isSome_none, Bool.false_eq_true, if_false]
  rw [h2]
  rfl

theorem sliceA_ok {C : Ctx} {t : TypeId} {x : AV} {lo hi mx : Option AV} {H : AH} {K : AV → Prop} {IM : Imm} {bs : List Blk} {w : World} {v : Value} {vlo vhi vmx : Option Value} (h : sliceA C t x lo hi mx H K) (hw : WR IM bs w H)
    (hv : VR IM bs v x) (hlo : VRo IM bs vlo lo) (hhi : VRo IM bs vhi hi) (hmx : VRo IM bs vmx mx) :
    ∃ r av, (Instr.sliceAt t v vlo vhi vmx).run C.P w = .ok r w ∧ VR IM bs r av ∧ K av := by
  unfold sliceA at h
  split at h
  · rename_i s
    obtain rfl := hmx.none
    split at h
    · rename_i l h' hs hl hh
      obtain ⟨⟨h0, h1, h2⟩, hk⟩ := h
      have hu := isStr_ok hs
      cases hv with
      | str sb =>
      have hsz := Lib.size_eq sb
      rw [← hsz] at hh
      have hb := run_bounds (P := C.P) (w := w) false sb.size sb.size hl hh hlo hhi h0 h1 (by omega)
      refine ⟨.string (sb.extract l.toNat h'.toNat), _, ?_, .str _, ?_⟩
      · exact run_sliceStr hu hb
      · rw [Lib.extract_data]; exact hk
    · exact h.elim
  · rename_i u xs
    obtain rfl := hmx.none
    split at h
    · rename_i n l h' hs hl hh
      obtain ⟨hn, ⟨h0, h1, h2⟩, hk⟩ := h
      obtain ⟨e, inf, e1, e2, e3, _⟩ := elSz_ok hs
      obtain ⟨a, c, rfl, hc⟩ := hv.isl_cap
      have hb := run_bounds (P := C.P) (w := w) true xs.length c hl hh hlo hhi h0 h1 (by omega)
      have := (hv.isl_part (l := l.toNat) (h := h'.toNat) (by omega) (by omega) c (by omega) (Nat.le_refl _)).1
      refine ⟨_, _, run_sliceAt e1 e2 hb, ?_, hk⟩
      rw [e3, hn]
      exact this
    · exact h.elim
  · rename_i u xs m
    obtain ⟨xm, rfl, hxm⟩ := hmx.some
    split at h
    · rename_i n l h' hs hl
      obtain ⟨hn, ⟨h0, h1, h2, h3⟩, hk⟩ := h
      obtain ⟨xh, rfl, hxh⟩ := hhi.some
      cases hxm
      cases hxh
      subst h3
      obtain ⟨e, inf, e1, e2, e3, _⟩ := elSz_ok hs
      obtain ⟨a, c, rfl, hc⟩ := hv.isl_cap
      have hb := run_bounds3 (P := C.P) (w := w) true xs.length c hl hlo h0 h1 (by omega)
      have := (hv.isl_part (l := l.toNat) (h := m.toNat) (by omega) (by omega) m.toNat (Nat.le_refl _) (by omega)).2 rfl
      refine ⟨_, _, run_sliceAt e1 e2 hb, ?_, hk⟩
      rw [e3, hn]
      exact this
    · exact h.elim
  · rename_i k off len
    obtain rfl := hmx.none
    split at h
    · rename_i n l h' hs hl hh
      obtain ⟨e, inf, e1, e2, e3, _⟩ := elSz_ok hs
      rw [ath_eq] at h
      have fin : ∀ (B : Blk) (L : Nat), bs[k]? = some B → L ≤ B.cap → (B.sz ≠ 0 → B.sz = n) → (0 ≤ l ∧ l ≤ h' ∧ h'.toNat + off ≤ L) →
          ∃ r, (Instr.sliceAt t v vlo vhi none).run C.P w = .ok r w ∧ VR IM bs r (.ref k (l.toNat + off) (h'.toNat - l.toNat)) := by
        intro B L hB hL hnz ⟨h0, h1, h2⟩
        cases hv with
        | ref0 _ _ B' hB' hc a =>
          rw [hB] at hB'
          cases hB'
          have hb := run_bounds (P := C.P) (w := w) true 0 0 hl hh hlo hhi h0 h1 (by omega)
          have e0 : l.toNat = 0 := by omega
          have e4 : h'.toNat = 0 := by omega
          refine ⟨_, run_sliceAt e1 e2 hb, ?_⟩
          rw [e0, e4]
          simp only [if_pos]
          exact .ref0 _ _ B hB (by omega) _
        | ref _ _ _ B' hB' hz' hle =>
          rw [hB] at hB'
          cases hB'
          have hb := run_bounds (P := C.P) (w := w) true len (B.cap - off) hl hh hlo hhi h0 h1 (by omega)
          refine ⟨_, run_sliceAt e1 e2 hb, ?_⟩
          by_cases he : B.cap - off = l.toNat
          · rw [if_pos he, he]
            have e4 : h'.toNat - l.toNat = 0 := by omega
            rw [e4, Nat.sub_self]
            exact .ref0 _ _ B hB (by omega) _
          · rw [if_neg he]
            simp only [Option.map_some, add_none]
            have := VR.ref (IM := IM) (bs := bs) k (l.toNat + off) (h'.toNat - l.toNat) B hB hz' (by omega)
            rw [e3, ← hnz hz']
            have e5 : off * B.sz + l.toNat * B.sz = (l.toNat + off) * B.sz := by rw [Nat.add_mul, Nat.add_comm]
            have e6 : B.cap - off - l.toNat = B.cap - (l.toNat + off) := by omega
            rw [e5, e6]
            exact this
      split at h
      · rename_i u xs hk
        obtain ⟨hn, hc, hK⟩ := h
        obtain ⟨B, hB⟩ := getBlk hw hk
        have ho := hw.obj k _ B hk hB
        obtain ⟨r, r1, r2⟩ := fin B xs.length hB (by
          rcases ho with ⟨g1, g2, g3⟩ | ⟨g1, cur, e, fz, g2, g3, g4, g5, _⟩
          · rw [g3]; exact Nat.zero_le _
          · exact g5) (fun hz => by
          rcases ho with ⟨g1, g2, g3⟩ | ⟨g1, _⟩
          · exact (hz g1).elim
          · rw [g1, hn]) hc
        exact ⟨r, _, r1, r2, hK⟩
      · rename_i xs hk
        obtain ⟨hn, hc, hK⟩ := h
        obtain ⟨B, hB⟩ := getBlk hw hk
        obtain ⟨g1, cur, e, fz, g2, g3, g4, g5, _⟩ := hw.obj k _ B hk hB
        obtain ⟨r, r1, r2⟩ := fin B xs.length hB g5 (fun _ => by rw [g1, hn]) hc
        exact ⟨r, _, r1, r2, hK⟩
      · exact h.elim
    · exact h.elim
  · rename_i k off len m
    obtain ⟨xm, rfl, hxm⟩ := hmx.some
    split at h
    · rename_i n l h' hs hl
      obtain ⟨xh, rfl, hxh⟩ := hhi.some
      cases hxm
      cases hxh
      obtain ⟨e, inf, e1, e2, e3, _⟩ := elSz_ok hs
      rw [ath_eq] at h
      split at h
      · rename_i u xs hk
        obtain ⟨hn, ⟨h0, h1, h2, h3⟩, hK⟩ := h
        subst h3
        subst h1
        obtain ⟨B, hB⟩ := getBlk hw hk
        have hLB : xs.length ≤ B.cap := by
          rcases hw.obj k _ B hk hB with ⟨g1, g2, g3⟩ | ⟨g1, cur, e, fz, g2, g3, g4, g5, _⟩
          · rw [g3]; exact Nat.zero_le _
          · exact g5
        have hcap : ∃ a len' c, v = .slice a len' c ∧ l ≤ c := by
          cases hv with
          | ref0 _ _ B' hB' hc a => rw [hB] at hB'; cases hB'; exact ⟨a, 0, 0, rfl, by omega⟩
          | ref _ _ _ B' hB' hz' hle => rw [hB] at hB'; cases hB'; exact ⟨_, _, _, rfl, by omega⟩
        obtain ⟨a, len', c, rfl, hc⟩ := hcap
        have hb := run_bounds3 (P := C.P) (w := w) true len' c hl hlo h0 (Int.le_refl _) hc
        refine ⟨_, _, run_sliceAt e1 e2 hb, ?_, hK⟩
        rw [Nat.sub_self]
        exact .fsl0 _ _
      · exact h.elim
    · exact h.elim
  · exact h.elim

end Go.Abs
end

section
set_option autoImplicit false
set_option linter.unusedVariables false
set_option linter.unusedSimpArgs false
namespace Go.Abs
open Go

theorem growBy_le (n : Nat) : ∀ r c, Builtin.growBy n r c ≤ max c (n + (n + 768) / 4)
  | 0, c => by simp [Builtin.growBy]; omega
  | r + 1, c => by
    unfold Builtin.growBy
    split
    · omega
    · have := growBy_le n r (c + (c + 768) / 4)
      omega

theorem next_le {n c : Nat} (h : c < n) : Builtin.nextslicecap n c ≤ 2 * n + 1024 := by
  unfold Builtin.nextslicecap
  split
  · omega
  · split
    · omega
    · have := growBy_le n 4 c
      omega

theorem enc_one (u : U) (x : El u) : (enc u x).cells.all AV.one = true := by
  cases u <;> rfl

/-- Elements that lie in cells from o on. -/
def RowIn (IM : Imm) (bs : List Blk) (cur : Array Value) (o : Nat) (u : U) (ys : List (El u)) : Prop :=
  o + ys.length * u.sz ≤ cur.size ∧ ∀ (i : Nat) (y : El u) (j : Nat) (c : AV), ys[i]? = some y → (enc u y).cells[j]? = some c → VR IM bs (cur.getD (o + i * u.sz + j) undef) c

def newsOf (cur : Array Value) (o n : Nat) : List Value := (List.range n).map fun q => cur.getD (o + q) undef

theorem newsOf_len (cur : Array Value) (o n : Nat) : (newsOf cur o n).length = n := by simp [newsOf]
theorem newsOf_get (cur : Array Value) (o n q : Nat) (h : q < n) : (newsOf cur o n).getD q undef = cur.getD (o + q) undef := by
  simp [newsOf, List.getD_eq_getElem?_getD, h]

theorem RowIn.one {IM : Imm} {bs : List Blk} {cur : Array Value} {o : Nat} {u : U} {ys : List (El u)} (h : RowIn IM bs cur o u ys) : ∀ v ∈ newsOf cur o (ys.length * u.sz), v.oneCell' = true := by
  intro v hv
  simp only [newsOf, List.mem_map, List.mem_range] at hv
  obtain ⟨q, hq, rfl⟩ := hv
  have hi : q / u.sz < ys.length := (Nat.div_lt_iff_lt_mul u.sz_pos).2 hq
  have hj : q % u.sz < u.sz := Nat.mod_lt _ u.sz_pos
  have hc : (enc u (ys.getD (q / u.sz) (dflt u))).cells[q % u.sz]? = some ((enc u (ys.getD (q / u.sz) (dflt u))).cells.getD (q % u.sz) AV.junk) :=
    getD_of AV.junk (by rw [enc_cells]; exact hj)
  have := h.2 (q / u.sz) _ (q % u.sz) _ (getD_of (dflt u) hi) hc
  have e : o + q / u.sz * u.sz + q % u.sz = o + q := by
    have := Nat.div_add_mod q u.sz
    rw [Nat.mul_comm] at this
    omega
  rw [e] at this
  refine this.one ?_
  have := enc_one u (ys.getD (q / u.sz) (dflt u))
  rw [List.all_eq_true] at this
  exact this _ (List.mem_of_getElem? hc)

theorem RowIn.src {P : Program} {IM : Imm} {bs : List Blk} {w : World} {cur : Array Value} {b o c : Nat} {e : TypeId} {fz : Nat × Nat} {u : U} {ys : List (El u)} {tx e' : TypeId} (h : RowIn IM bs cur o u ys)
    (hk : P.underlying tx = some (.slice e')) (hh : w.heap[b]? = some (.cells cur e fz)) : Src P u.sz tx (.slice (some ⟨b, o, none⟩) ys.length c) ys.length (newsOf cur o (ys.length * u.sz)) w :=
  Src.ofSlice w hk ⟨b, o, none⟩ ys.length c _ (newsOf_len _ _ _) (fun j v hj => by
    have hjl := lt_of_getL hj
    rw [newsOf_len] at hjl
    have := newsOf_get cur o (ys.length * u.sz) j hjl
    rw [List.getD_eq_getElem?_getD, hj] at this
    replace this : v = _ := this
    rw [this, add_none]
    exact cell_of hh (by have := h.1; omega)) h.one

/-- What is appended: told by its elements. -/
structure SrcR (P : Program) (IM : Imm) (bs : List Blk) (w : World) (tx : TypeId) (v : Value) (u : U) (ys : List (El u)) : Prop where
  src : ∃ news, Src P u.sz tx v ys.length news w ∧ ∀ (i : Nat) (y : El u) (j : Nat) (c : AV), ys[i]? = some y → (enc u y).cells[j]? = some c → VR IM bs (news.getD (i * u.sz + j) undef) c

theorem RowIn.srcR {P : Program} {IM : Imm} {bs : List Blk} {w : World} {cur : Array Value} {b o c : Nat} {e : TypeId} {fz : Nat × Nat} {u : U} {ys : List (El u)} {tx e' : TypeId} (h : RowIn IM bs cur o u ys)
    (hk : P.underlying tx = some (.slice e')) (hh : w.heap[b]? = some (.cells cur e fz)) : SrcR P IM bs w tx (.slice (some ⟨b, o, none⟩) ys.length c) u ys :=
  ⟨_, h.src hk hh, fun i y j c hy hc => by
    have hi := lt_of_getL hy
    have hj := lt_of_getL hc
    rw [enc_cells] at hj
    have := row_mul (sz := u.sz) hi (Nat.le_refl _)
    rw [newsOf_get _ _ _ _ (by omega), ← Nat.add_assoc]
    exact h.2 i y j c hy hc⟩

def srcA (u : U) (x : AV) (H : AH) (K : List (El u) → Prop) : Prop :=
  match x with
  | .isl u' ys => match castU u u' ys with
    | some zs => K zs
    | none => False
  | .fsl u' ys => match castU u u' ys with
    | some zs => K zs
    | none => False
  | .nilsl => K []
  | .ref k off len => match ath H k with
    | some (.row u' xs) => match castU u u' xs with
      | some zs => match off with
        | 0 => Alt (Side (len = zs.length) (K zs)) (Side (len ≤ zs.length) (K (zs.take len)))
        | off + 1 => Side (off + 1 + len ≤ zs.length) (K ((zs.drop (off + 1)).take len))
      | none => False
    | _ => False
  | .str s => match castU u .u8 s with
    | some zs => K zs
    | none => False
  | _ => False

theorem SrcR.empty {P : Program} {IM : Imm} {bs : List Blk} {w : World} {tx e' : TypeId} (hk : P.underlying tx = some (.slice e')) (a : Option Addr) (c : Nat) (u : U) : SrcR P IM bs w tx (.slice a 0 c) u [] := by
  refine ⟨[], ?_, fun i y j c hy => by simp at hy⟩
  cases a with
  | none => exact Src.ofNil w hk c
  | some a => exact Src.ofSlice w hk a 0 c [] (by simp) (fun j v h => by simp at h) (fun v h => by cases h)

theorem srcA_ok {P : Program} {u : U} {x : AV} {H : AH} {K : List (El u) → Prop} {IM : Imm} {bs : List Blk} {w : World} {v : Value} {tx : TypeId} (h : srcA u x H K) (hw : WR IM bs w H) (hv : VR IM bs v x)
    (hk : (∃ s, x = .str s) → P.underlying tx = some .string) (hk' : (¬ ∃ s, x = .str s) → ∃ e', P.underlying tx = some (.slice e')) : ∃ ys, K ys ∧ SrcR P IM bs w tx v u ys := by
  unfold srcA at h
  split at h
  · rename_i u' ys
    obtain ⟨e', he'⟩ := hk' (by rintro ⟨s, hs⟩; cases hs)
    split at h
    · rename_i zs hz
      obtain ⟨rfl, hq⟩ := castU_some hz
      cases eq_of_heq hq
      refine ⟨_, h, ?_⟩
      cases hv with
      | isl0 => exact SrcR.empty he' _ _ _
      | isl _ _ b o c hle m hm hb hvv =>
        obtain ⟨e, fz, hh⟩ := hw.imm b m hm
        exact RowIn.srcR ⟨hb, fun i y j c => hvv i y j c⟩ he' hh
    · exact h.elim
  · rename_i u' ys
    obtain ⟨e', he'⟩ := hk' (by rintro ⟨s, hs⟩; cases hs)
    split at h
    · rename_i zs hz
      obtain ⟨rfl, hq⟩ := castU_some hz
      cases eq_of_heq hq
      refine ⟨_, h, ?_⟩
      cases hv with
      | fsl0 => exact SrcR.empty he' _ _ _
      | fsl _ _ b o m hm hb hvv =>
        obtain ⟨e, fz, hh⟩ := hw.imm b m hm
        exact RowIn.srcR ⟨hb, fun i y j c => hvv i y j c⟩ he' hh
    · exact h.elim
  · obtain ⟨e', he'⟩ := hk' (by rintro ⟨s, hs⟩; cases hs)
    cases hv
    exact ⟨_, h, SrcR.empty he' _ _ _⟩
  · rename_i k off len
    obtain ⟨e', he'⟩ := hk' (by rintro ⟨s, hs⟩; cases hs)
    rw [ath_eq] at h
    split at h
    · rename_i u' xs hkk
      split at h
      · rename_i zs hz
        obtain ⟨rfl, hq⟩ := castU_some hz
        cases eq_of_heq hq
        obtain ⟨B, hB⟩ := getBlk hw hkk
        have gen : off + len ≤ xs.length → SrcR P IM bs w tx v u' ((xs.drop off).take len) := by
          intro hle
          cases hv with
          | ref0 _ _ B' hB' hc a =>
            have : (xs.drop off).take 0 = [] := by simp
            rw [this]
            exact SrcR.empty he' _ _ _
          | ref _ _ _ B' hB' hz' hle' =>
            rw [hB] at hB'
            cases hB'
            obtain ⟨cur, e, fz, hh, _, hcs, hcap, hBz, _, hc⟩ := rowCR hw hkk hB (.inl hz')
            have hl : ((xs.drop off).take len).length = len := by simp; omega
            have hin : RowIn IM bs cur (off * B.sz) u' ((xs.drop off).take len) := by
              rw [hBz]
              refine ⟨?_, ?_⟩
              · rw [hl, hcs, ← Nat.add_mul]
                exact Nat.mul_le_mul_right _ (by omega)
              · intro i y j c hy hcc
                have hy' : xs[off + i]? = some y := by
                  rw [List.getElem?_take] at hy
                  split at hy
                  · rwa [List.getElem?_drop] at hy
                  · cases hy
                have := (hc _ _ hy').2 j c hcc
                rwa [Nat.add_mul] at this
            have := hin.srcR (c := B.cap - off) he' hh
            rwa [hl] at this
        split at h
        · rcases h with ⟨h1, h2⟩ | ⟨h1, h2⟩
          · refine ⟨_, h2, ?_⟩
            have := gen (by omega)
            simpa [h1] using this
          · refine ⟨_, h2, ?_⟩
            have := gen (by omega)
            simpa using this
        · exact ⟨_, h.2, gen h.1⟩
      · exact h.elim
    · exact h.elim
  · rename_i s
    have hst := hk ⟨s, rfl⟩
    split at h
    · rename_i zs hz
      obtain ⟨rfl, hq⟩ := castU_some hz
      cases eq_of_heq hq
      refine ⟨_, h, ?_⟩
      cases hv with
      | str sb =>
      refine ⟨byteCells sb, ?_, ?_⟩
      · have := Src.ofString (P := P) w hst sb
        rw [Lib.size_eq] at this
        exact this
      · intro i y j c hy hc
        have hj := lt_of_getL hc
        rw [enc_cells] at hj
        have : j = 0 := by simp [U.sz] at hj; omega
        subst this
        simp only [enc, AV.cells, List.getElem?_cons_zero, Option.some.injEq] at hc
        subst hc
        have : (byteCells sb)[i]? = some (.int .u8 y.toNat) := by
          unfold byteCells
          rw [List.getElem?_map, hy]
          rfl
        simp only [U.sz, Nat.mul_one, Nat.add_zero, List.getD_eq_getElem?_getD, this]
        exact .int _ _
    · exact h.elim
  · exact h.elim

/-- A row's elements, its first ones kept, others behind them. -/
theorem glue {IM : Imm} {bs : List Blk} {u : U} {xs ys : List (El u)} {cur : Array Value} (hx : RowIn IM bs cur 0 u xs) {news : List Value}
    (hn : news.length = ys.length * u.sz) (hv : ∀ (i : Nat) (y : El u) (j : Nat) (c : AV), ys[i]? = some y → (enc u y).cells[j]? = some c → VR IM bs (news.getD (i * u.sz + j) undef) c)
    {cur' : Array Value} (h1 : ∀ p, p < xs.length * u.sz → cur'.getD p undef = cur.getD p undef) (h2 : ∀ q, q < news.length → cur'.getD (xs.length * u.sz + q) undef = news.getD q undef)
    (hs : (xs.length + ys.length) * u.sz ≤ cur'.size) : RowIn IM bs cur' 0 u (xs ++ ys) := by
  refine ⟨by rw [Nat.zero_add, List.length_append]; exact hs, fun i y j c hy hc => ?_⟩
  have hj := lt_of_getL hc
  rw [enc_cells] at hj
  rw [Nat.zero_add]
  rcases Nat.lt_or_ge i xs.length with hi | hi
  · rw [List.getElem?_append_left hi] at hy
    have := row_mul (sz := u.sz) hi (Nat.le_refl _)
    rw [h1 _ (by omega)]
    have := hx.2 i y j c hy hc
    rwa [Nat.zero_add] at this
  · rw [List.getElem?_append_right hi] at hy
    have hi' := lt_of_getL hy
    have := row_mul (sz := u.sz) hi' (Nat.le_refl _)
    have e : i * u.sz + j = xs.length * u.sz + ((i - xs.length) * u.sz + j) := by
      rw [← Nat.add_assoc, ← Nat.add_mul]
      congr 2
      omega
    rw [e, h2 _ (by omega)]
    exact hv _ _ _ _ hy hc

end Go.Abs
end

section
set_option autoImplicit false
set_option linter.unusedVariables false
set_option linter.unusedSimpArgs false
namespace Go.Abs
open Go

theorem grownCap_ge (w : World) (need old : Nat) (e : TypeId) : need ≤ grownCap w need old e := by
  exact Nat.le_add_right _ _

theorem zeroCells_size (z : Array Value) (n : Nat) : (Builtin.zeroCells z n).size = n * z.size := by simp [Builtin.zeroCells]

/-- A new row that holds xs ++ ys: what append makes where there is no room. -/
theorem grow_core {P : Program} {IM : Imm} {bs : List Blk} {w : World} {t tx ty e : TypeId} {inf : TypeInfo} {z : Value} {u : U} (ht : P.underlying t = some (.slice e)) (hi : P.info? e = some inf) (hz : inf.zero = some z)
    (hsz : inf.size = u.sz) (hzs : z.cells.size = u.sz) (hby : inf.bytes ≤ 65536) {base : Option Addr} {cap : Nat} {xs ys : List (El u)} {cur : Array Value} {o : Nat} {eb : TypeId} {fz : Nat × Nat}
    (hx : RowIn IM bs cur o u xs) (hbase : (xs = [] ∧ base = none) ∨ (∃ b, base = some ⟨b, o, none⟩ ∧ w.heap[b]? = some (.cells cur eb fz)) ∨ xs = []) {v : Value} (hs : SrcR P IM bs w tx v u ys)
    (hg : cap < xs.length + ys.length) (hb : xs.length + ys.length ≤ 1073741824) :
    ∃ cur' cap', (Builtin.append_ #[t, tx] ty #[.slice base xs.length cap, v]).run P w = .ok (.slice (some ⟨w.heap.size, 0, none⟩) (xs.length + ys.length) cap') (w.drew.alloc (.cells cur' e)) ∧
      RowIn IM bs cur' 0 u (xs ++ ys) ∧ cur'.size = cap' * u.sz ∧ xs.length + ys.length ≤ cap' := by
  obtain ⟨news, hsrc, hv⟩ := hs
  have hold : (Builtin.firstCells inf.size xs.length (.slice base xs.length cap)).run P w.drew = .ok (newsOf cur o (xs.length * u.sz)).toArray w.drew := by
    have hemp : xs = [] → (Builtin.firstCells inf.size xs.length (.slice base xs.length cap)).run P w.drew = .ok (newsOf cur o (xs.length * u.sz)).toArray w.drew := by
      intro he
      subst he
      simp only [List.length_nil, Nat.zero_mul, newsOf, List.range_zero, List.map_nil]
      cases base with
      | none => exact run_firstCells_none w.drew inf.size 0 0 cap
      | some a => exact run_firstCells_some w.drew inf.size 0 a 0 cap [] (by simp) (fun j v h => by simp at h)
    rcases hbase with ⟨he, _⟩ | ⟨b, rfl, hh⟩ | he
    · exact hemp he
    · refine run_firstCells_some w.drew inf.size xs.length ⟨b, o, none⟩ xs.length cap _ (by rw [newsOf_len, hsz]) (fun j v hj => ?_)
      have hjl := lt_of_getL hj
      rw [newsOf_len] at hjl
      have := newsOf_get cur o (xs.length * u.sz) j hjl
      rw [List.getD_eq_getElem?_getD, hj] at this
      replace this : v = _ := this
      rw [this, add_none]
      exact cell_of (w := w.drew) hh (by have := hx.1; omega)
    · exact hemp he
  have hnl := next_le hg
  rw [← hsz] at hsrc
  have hrun := run_append_grow_src (P := P) w t tx ty e inf z ht hi hz base xs.length cap _ hold v ys.length news hsrc hg (by omega) (by
    calc Builtin.nextslicecap (xs.length + ys.length) cap * inf.bytes ≤ (2 * (xs.length + ys.length) + 1024) * 65536 := Nat.mul_le_mul hnl hby
      _ ≤ 281474976710656 := by omega)
  have hnewl : news.length = ys.length * u.sz := by rw [← hsz]; exact hsrc.newsLen
  have hgc := grownCap_ge w (xs.length + ys.length) cap e
  generalize grownCap w (xs.length + ys.length) cap e = gc at *
  refine ⟨_, gc, hrun, ?_, ?_, hgc⟩
  · have hsize : ((newsOf cur o (xs.length * u.sz) ++ news).toArray ++ Builtin.zeroCells z.cells (gc - (xs.length + ys.length))).size = gc * u.sz := by
      simp only [Array.size_append, List.size_toArray, List.length_append, newsOf_len, zeroCells_size, hnewl, hzs]
      rw [← Nat.add_mul, ← Nat.add_mul]
      congr 1
      omega
    have hget : ∀ p, p < (newsOf cur o (xs.length * u.sz) ++ news).length → ((newsOf cur o (xs.length * u.sz) ++ news).toArray ++ Builtin.zeroCells z.cells (gc - (xs.length + ys.length))).getD p undef = (newsOf cur o (xs.length * u.sz) ++ news).getD p undef := by
      intro p hp
      simp only [Array.getD_eq_getD_getElem?, List.getD_eq_getElem?_getD]
      rw [Array.getElem?_append_left (by simpa using hp)]
      simp
    have hx0 : RowIn IM bs (newsOf cur o (xs.length * u.sz)).toArray 0 u xs := by
      refine ⟨by simp [newsOf_len], fun i x j c hxi hc => ?_⟩
      have hi' := lt_of_getL hxi
      have hj := lt_of_getL hc
      rw [enc_cells] at hj
      have := row_mul (sz := u.sz) hi' (Nat.le_refl _)
      have e1 : (newsOf cur o (xs.length * u.sz)).toArray.getD (0 + i * u.sz + j) undef = cur.getD (o + (i * u.sz + j)) undef := by
        rw [← newsOf_get cur o (xs.length * u.sz) (i * u.sz + j) (by omega), Nat.zero_add]
        simp [Array.getD_eq_getD_getElem?, List.getD_eq_getElem?_getD]
      rw [e1, ← Nat.add_assoc]
      exact hx.2 i x j c hxi hc
    refine glue hx0 hnewl hv (fun p hp => ?_) (fun q hq => ?_) ?_
    · rw [hget p (by simp [newsOf_len]; omega), List.getD_eq_getElem?_getD, List.getElem?_append_left (by rw [newsOf_len]; exact hp)]
      simp [Array.getD_eq_getD_getElem?]
    · rw [hget _ (by simp [newsOf_len]; omega), List.getD_eq_getElem?_getD, List.getElem?_append_right (by rw [newsOf_len]; omega), newsOf_len]
      simp [List.getD_eq_getElem?_getD]
    · rw [hsize]
      exact Nat.mul_le_mul_right _ hgc
  · simp only [Array.size_append, List.size_toArray, List.length_append, newsOf_len, zeroCells_size, hnewl, hzs]
    rw [← Nat.add_mul, ← Nat.add_mul]
    congr 1
    omega

theorem RowIn.objR {IM : Imm} {bs : List Blk} {cur : Array Value} {u : U} {xs : List (El u)} (h : RowIn IM bs cur 0 u xs) (i : Nat) (x : El u) (j : Nat) (c : AV) (hx : xs[i]? = some x) (hc : (enc u x).cells[j]? = some c) :
    VR IM bs (cur.getD (i * u.sz + j) undef) c := by
  have := h.2 i x j c hx hc
  rwa [Nat.zero_add] at this

theorem rowIn_of {IM : Imm} {bs : List Blk} {w : World} {H : AH} (hw : WR IM bs w H) {k : Nat} {u : U} {xs : List (El u)} {B : Blk} (hk : H[k]? = some (.row u xs)) (hB : bs[k]? = some B) (hz : B.sz ≠ 0) (n : Nat) (hn : n ≤ xs.length) :
    ∃ cur e fz, w.heap[B.b]? = some (.cells cur e fz) ∧ (fz.2 ≤ fz.1 ∨ cur.size ≤ fz.1) ∧ cur.size = B.cap * u.sz ∧ xs.length ≤ B.cap ∧ B.sz = u.sz ∧ Claim (.row u xs) B ∧ RowIn IM bs cur 0 u (xs.take n) ∧ RowIn IM bs cur 0 u xs := by
  obtain ⟨cur, e, fz, hh, hfz, hcs, hcap, hBz, hcl, hc⟩ := rowCR hw hk hB (.inl hz)
  have full : RowIn IM bs cur 0 u xs := by
    refine ⟨by rw [hcs, Nat.zero_add]; exact Nat.mul_le_mul_right _ hcap, fun i y j c hy hcc => ?_⟩
    have := (hc i y hy).2 j c hcc
    rwa [Nat.zero_add]
  refine ⟨cur, e, fz, hh, hfz, hcs, hcap, hBz, hcl, ⟨?_, ?_⟩, full⟩
  · rw [List.length_take, hcs, Nat.zero_add]; exact Nat.mul_le_mul_right _ (by omega)
  · intro i y j c hy hcc
    rw [List.getElem?_take] at hy
    split at hy
    · exact full.2 i y j c hy hcc
    · cases hy

/-- append onto a slice of the call's own, from its begin on. -/
theorem append_ref {P : Program} {IM : Imm} {bs : List Blk} {w : World} {H : AH} {t tx ty e : TypeId} {inf : TypeInfo} {z : Value} {u : U} (hw : WR IM bs w H) (ht : P.underlying t = some (.slice e)) (hi : P.info? e = some inf)
    (hz : inf.zero = some z) (hsz : inf.size = u.sz) (hzs : z.cells.size = u.sz) (hby : inf.bytes ≤ 65536) {k len : Nat} {xs ys : List (El u)} (hk : H[k]? = some (.row u xs)) (hle : len ≤ xs.length) {s v : Value}
    (hv : VR IM bs s (.ref k 0 len)) (hs : SrcR P IM bs w tx v u ys) (hb : len + ys.length ≤ 1073741824) :
    ∃ r w' bs', (Builtin.append_ #[t, tx] ty #[s, v]).run P w = .ok r w' ∧ WR IM bs' w' (H.set k .dead ++ [.row u (xs.take len ++ ys)]) ∧ Ext IM bs w H IM bs' w' (H.set k .dead ++ [.row u (xs.take len ++ ys)]) ∧
      VR IM bs' r (.ref H.length 0 (len + ys.length)) := by
  have htl : (xs.take len).length = len := by rw [List.length_take]; omega
  have grown : ∀ (base : Option Addr) (cap : Nat) (cur : Array Value) (eb : TypeId) (fz : Nat × Nat), RowIn IM bs cur 0 u (xs.take len) → ((xs.take len = [] ∧ base = none) ∨ (∃ b, base = some ⟨b, 0, none⟩ ∧ w.heap[b]? = some (.cells cur eb fz)) ∨ xs.take len = []) →
      cap < len + ys.length → ∃ r w' bs', (Builtin.append_ #[t, tx] ty #[.slice base len cap, v]).run P w = .ok r w' ∧ WR IM bs' w' (H.set k .dead ++ [.row u (xs.take len ++ ys)]) ∧ Ext IM bs w H IM bs' w' (H.set k .dead ++ [.row u (xs.take len ++ ys)]) ∧
      VR IM bs' r (.ref H.length 0 (len + ys.length)) := by
    intro base cap cur eb fz hx hbase hg
    obtain ⟨cur', cap', g1, g2, g3, g4⟩ := grow_core (ty := ty) (base := base) (cap := cap) ht hi hz hsz hzs hby hx hbase hs (by rw [htl]; exact hg) (by rw [htl]; exact hb)
    rw [htl] at g1 g4
    obtain ⟨B, hB⟩ := getBlk hw hk
    obtain ⟨r1, r2⟩ := hw.move hk hB (w' := w.drew.alloc (.cells cur' e)) ((Same.drew w).trans (Same.alloc _ _)) (fun b hb _ => heap_alloc_lt w.drew _ b hb) (B' := ⟨w.heap.size, u.sz, cap'⟩) (fun _ => .inr (Nat.le_refl _)) (o' := .row u (xs.take len ++ ys))
      (.inr ⟨rfl, cur', e, (0, 0), heap_alloc_eq w.drew _, .inl (Nat.le_refl _), g3, by rw [List.length_append, htl]; exact g4, fun i j c hi hc => (g2.objR i _ j c (getD_of (dflt u) hi) hc).mono (Imm.le_refl IM) (List.prefix_append bs _)⟩)
    refine ⟨_, _, _, g1, r1, r2, ?_⟩
    have := VR.ref (IM := IM) (bs := bs ++ [⟨w.heap.size, u.sz, cap'⟩]) H.length 0 (len + ys.length) ⟨w.heap.size, u.sz, cap'⟩ (by rw [← hw.len]; simp) (Nat.ne_of_gt u.sz_pos) (by simpa using g4)
    simpa using this
  cases hv with
  | ref0 _ _ B hB hc a =>
    have hc0 : B.cap = 0 := by omega
    have hemp : xs.take 0 = [] := by simp
    rcases Nat.eq_zero_or_pos ys.length with hy | hy
    · have hys : ys = [] := List.length_eq_zero_iff.1 hy
      subst hys
      obtain ⟨news, hsrc, _⟩ := hs
      have hn0 : news = [] := List.length_eq_zero_iff.1 (by rw [hsrc.newsLen]; simp)
      subst hn0
      rw [← hsz] at hsrc
      have hrun := run_append_nothing (P := P) w t tx ty e inf ht hi a 0 0 (Nat.le_refl _) v hsrc
      obtain ⟨r1, r2⟩ := hw.move hk hB (w' := w) (Same.refl w) (fun b _ _ => rfl) (B' := ⟨0, 0, 0⟩) (fun h => (h rfl).elim) (o' := .row u (xs.take 0 ++ [])) (.inl ⟨rfl, rfl, by simp⟩)
      exact ⟨_, _, _, hrun, r1, r2, .ref0 H.length 0 ⟨0, 0, 0⟩ (by rw [← hw.len]; simp) (Nat.le_refl _) a⟩
    · exact grown a 0 #[] 0 (0, 0) (by rw [hemp]; exact ⟨by simp, fun i y j c h => by simp at h⟩) (.inr (.inr hemp)) (by omega)
  | ref _ _ _ B hB hz' hle' =>
    obtain ⟨cur, eb, fz, hh, hfz, hcs, hcap, hBz, hcl, hx, hxf⟩ := rowIn_of hw hk hB hz' len hle
    simp only [Nat.zero_mul, Nat.sub_zero]
    rcases Nat.lt_or_ge B.cap (len + ys.length) with hlt | hge
    · exact grown (some ⟨B.b, 0, none⟩) B.cap cur eb fz hx (.inr (.inl ⟨B.b, rfl, hh⟩)) hlt
    · obtain ⟨news, hsrc, hvv⟩ := hs
      have hnewl : news.length = ys.length * u.sz := hsrc.newsLen
      have hcells : len * u.sz + news.length ≤ cur.size := by
        rw [hnewl, hcs, ← Nat.add_mul]; exact Nat.mul_le_mul_right _ hge
      have hrun := run_append_room_src (P := P) w t tx ty e inf ht hi B.b 0 len B.cap v ys.length news (by rw [hsz]; exact hsrc) hge
        (fun j hj => by rw [cell_of hh (by rw [hsz]; omega)]; rfl)
        (fun j hj => by simp only [World.frozen?, hh]; rw [hsz]; simp; omega)
      rw [hsz, Nat.zero_add] at hrun
      have hset := heap_setCells news (len * u.sz) w cur hh
      have hnew : RowIn IM bs (wrs cur (len * u.sz) news) 0 u (xs.take len ++ ys) := by
        refine glue hx hnewl hvv (fun p hp => ?_) (fun q hq => ?_) ?_
        · rw [htl] at hp
          exact wrs_out _ _ _ _ (.inl hp)
        · rw [htl]; exact wrs_in _ _ _ _ hq hcells
        · rw [wrs_size, hcs, htl]; exact Nat.mul_le_mul_right _ hge
      obtain ⟨r1, r2⟩ := hw.move hk hB (same_setCells B.b news (len * u.sz) w) (fun b _ hne => heap_setCells_ne B.b _ _ _ b (hne hcl)) (B' := ⟨B.b, u.sz, B.cap⟩) (fun _ => .inl ⟨hcl, rfl⟩) (o' := .row u (xs.take len ++ ys))
        (.inr ⟨rfl, _, eb, fz, hset, by rw [wrs_size]; exact hfz, by rw [wrs_size]; exact hcs, by rw [List.length_append, htl]; exact hge, fun i j c hi hc => (hnew.objR i _ j c (getD_of (dflt u) hi) hc).mono (Imm.le_refl IM) (List.prefix_append bs _)⟩)
      refine ⟨_, _, _, hrun, r1, r2, ?_⟩
      have := VR.ref (IM := IM) (bs := bs ++ [⟨B.b, u.sz, B.cap⟩]) H.length 0 (len + ys.length) ⟨B.b, u.sz, B.cap⟩ (by rw [← hw.len]; simp) (Nat.ne_of_gt u.sz_pos) (by simpa using hge)
      simpa using this

/-- append onto nothing, or onto what is full. -/
theorem append_new {P : Program} {IM : Imm} {bs : List Blk} {w : World} {H : AH} {t tx ty e : TypeId} {inf : TypeInfo} {z : Value} {u : U} (hw : WR IM bs w H) (ht : P.underlying t = some (.slice e)) (hi : P.info? e = some inf)
    (hz : inf.zero = some z) (hsz : inf.size = u.sz) (hzs : z.cells.size = u.sz) (hby : inf.bytes ≤ 65536) {xs ys : List (El u)} {s v : Value}
    (hv : VR IM bs s (.fsl u xs)) (hs : SrcR P IM bs w tx v u ys) (hb : xs.length + ys.length ≤ 1073741824) (hne : xs = [] ∨ ys ≠ []) :
    ∃ r w' bs', (Builtin.append_ #[t, tx] ty #[s, v]).run P w = .ok r w' ∧ WR IM bs' w' (H ++ [.row u (xs ++ ys)]) ∧ Ext IM bs w H IM bs' w' (H ++ [.row u (xs ++ ys)]) ∧
      VR IM bs' r (.ref H.length 0 (xs.length + ys.length)) := by
  have grown : ∀ (base : Option Addr) (cur : Array Value) (o : Nat) (eb : TypeId) (fz : Nat × Nat), RowIn IM bs cur o u xs → ((xs = [] ∧ base = none) ∨ (∃ b, base = some ⟨b, o, none⟩ ∧ w.heap[b]? = some (.cells cur eb fz)) ∨ xs = []) →
      ys ≠ [] → ∃ r w' bs', (Builtin.append_ #[t, tx] ty #[.slice base xs.length xs.length, v]).run P w = .ok r w' ∧ WR IM bs' w' (H ++ [.row u (xs ++ ys)]) ∧ Ext IM bs w H IM bs' w' (H ++ [.row u (xs ++ ys)]) ∧
      VR IM bs' r (.ref H.length 0 (xs.length + ys.length)) := by
    intro base cur o eb fz hx hbase hy
    have hyl : 0 < ys.length := List.length_pos_iff.2 hy
    obtain ⟨cur', cap', g1, g2, g3, g4⟩ := grow_core (ty := ty) (base := base) (cap := xs.length) ht hi hz hsz hzs hby hx hbase hs (by omega) hb
    obtain ⟨r1, r2, r3⟩ := new_row (e := e) (fz := (0, 0)) (u := u) (xs := xs ++ ys) (cap := cap') hw (w' := w.drew.alloc (.cells cur' e)) ((Same.drew w).trans (Same.alloc _ _)) (fun b hb => heap_alloc_lt w.drew _ b hb) (nb := w.heap.size) (Nat.le_refl _)
      (heap_alloc_eq w.drew _) (.inl (Nat.le_refl _)) g3 (by rw [List.length_append]; exact g4) g2.objR
    rw [List.length_append] at r3
    exact ⟨_, _, _, g1, r1, r2, r3⟩
  have nothing : ∀ a : Option Addr, xs = [] → ys = [] → s = .slice a 0 0 → ∃ r w' bs', (Builtin.append_ #[t, tx] ty #[s, v]).run P w = .ok r w' ∧ WR IM bs' w' (H ++ [.row u (xs ++ ys)]) ∧ Ext IM bs w H IM bs' w' (H ++ [.row u (xs ++ ys)]) ∧
      VR IM bs' r (.ref H.length 0 (xs.length + ys.length)) := by
    intro a hxs hys hsv
    subst hxs hys hsv
    obtain ⟨news, hsrc, _⟩ := hs
    have hn0 : news = [] := List.length_eq_zero_iff.1 (by rw [hsrc.newsLen]; simp)
    subst hn0
    rw [← hsz] at hsrc
    have hrun := run_append_nothing (P := P) w t tx ty e inf ht hi a 0 0 (Nat.le_refl _) v hsrc
    obtain ⟨r1, r2⟩ := hw.add (w' := w) (Same.refl w) (fun b _ => rfl) (B := ⟨0, 0, 0⟩) (fun h => (h rfl).elim) (o' := .row u ([] ++ [])) (.inl ⟨rfl, rfl, by simp⟩)
    exact ⟨_, _, _, hrun, r1, r2, .ref0 H.length 0 ⟨0, 0, 0⟩ (by rw [← hw.len]; simp) (Nat.le_refl _) a⟩
  by_cases hy : ys = []
  · have hx0 : xs = [] := by
      rcases hne with h | h
      · exact h
      · exact (h hy).elim
    subst hx0
    cases hv with
    | fsl0 _ a => exact nothing a rfl hy rfl
    | fsl _ _ b o m => exact nothing _ rfl hy rfl
  · cases hv with
    | fsl0 _ a => exact grown a #[] 0 0 (0, 0) ⟨by simp, fun i y j c h => by simp at h⟩ (.inr (.inr rfl)) hy
    | fsl _ _ b o m hm hb' hvv =>
      obtain ⟨eb, fz, hh⟩ := hw.imm b m hm
      exact grown (some ⟨b, o, none⟩) m o eb fz ⟨hb', fun i y j c => hvv i y j c⟩ (.inr (.inl ⟨b, rfl, hh⟩)) hy

end Go.Abs
end

section
set_option autoImplicit false
set_option linter.unusedVariables false
set_option linter.unusedSimpArgs false
namespace Go.Abs
open Go

def arrEl (C : Ctx) (t : TypeId) : Option (Nat × Nat) :=
  match C.ty t with
  | some ⟨.arr n e, _, _, _, _⟩ => match C.ty e with
    | some i => some (n, i.sz)
    | none => none
  | _ => none

/-- The address of an element. -/
def idxAddrA (C : Ctx) (t : TypeId) (x i : AV) (K : AV → Prop) : Prop :=
  match x, i with
  | .isl u xs, .int .i64 n => match elSz C t with
    | some z => Side (z = u.sz) (Side (0 ≤ n ∧ n < xs.length) (K (.iptr u xs n.toNat 0)))
    | none => False
  | .fsl u xs, .int .i64 n => match elSz C t with
    | some z => Side (z = u.sz) (Side (0 ≤ n ∧ n < xs.length) (K (.iptr u xs n.toNat 0)))
    | none => False
  | .ref k off len, .int .i64 n => Side (0 ≤ n ∧ n < len) (K (.ptr k (n.toNat + off) 0))
  | .ptr k j f, .int .i64 n => match arrEl C t with
    | some (m, z) => Side (0 ≤ n ∧ n < m ∧ 2 ≤ m) (K (.ptr k j (f + n.toNat * z)))
    | none => False
  | _, _ => False

theorem run_sizeE {P : Program} {w : World} {e : TypeId} {inf : TypeInfo} (hi : P.info? e = some inf) : (sizeOf e).run P w = .ok inf.size w := by
  simp [sizeOf, typeInfo, go_sem, hi]

theorem run_idxS {P : Program} {w : World} {t e : TypeId} {inf : TypeInfo} (ht : P.underlying t = some (.slice e)) (hi : P.info? e = some inf) {a : Addr} {len cap : Nat} {n : Int} (h0 : 0 ≤ n) (h1 : n < len) :
    (Instr.indexAt t (.slice (some a) len cap) (.int .i64 n)).run P w = .ok (.pointer (some (a.add (n.toNat * inf.size)))) w := by
  simp [Instr.indexAt, go_sem, run_underlying ht, run_sizeE hi, h0, h1]

/-- What the objects' cells need to be of the type that indexes them: told by the block's own size. -/
def refSz (C : Ctx) (t : TypeId) (k : Nat) (H : AH) : Prop :=
  match ath H k with
  | some (.row u _) => elSz C t = some u.sz
  | some (.rowA _) => elSz C t = some 1
  | _ => False

def idxAddr (C : Ctx) (t : TypeId) (x i : AV) (H : AH) (K : AV → Prop) : Prop :=
  match x with
  | .ref k _ _ => Side (refSz C t k H) (idxAddrA C t x i K)
  | _ => idxAddrA C t x i K

theorem idxAddr_ok {C : Ctx} {t : TypeId} {x i : AV} {H : AH} {K : AV → Prop} {IM : Imm} {bs : List Blk} {w : World} {vx vi : Value} (h : idxAddr C t x i H K) (hw : WR IM bs w H) (hx : VR IM bs vx x) (hi : VR IM bs vi i) :
    ∃ r av, (Instr.indexAt t vx vi).run C.P w = .ok r w ∧ VR IM bs r av ∧ K av := by
  unfold idxAddr at h
  split at h
  · rename_i k off len
    obtain ⟨hsz, h⟩ := h
    unfold idxAddrA at h
    split at h <;> rename_i hh <;> first | cases hh | skip
    · rename_i n
      obtain ⟨⟨h0, h1⟩, hk⟩ := h
      cases hi
      unfold refSz at hsz
      rw [ath_eq] at hsz
      have fin : ∀ (o : AObj) (z : Nat) (B : Blk), bs[k]? = some B → (B.sz ≠ 0 → B.sz = z) → elSz C t = some z → ∃ r av, (Instr.indexAt t vx (.int .i64 n)).run C.P w = .ok r w ∧ VR IM bs r av ∧ K av := by
        intro o z B hB hz hel
        obtain ⟨e, inf, e1, e2, e3, _⟩ := elSz_ok hel
        cases hx with
        | ref0 => omega
        | ref _ _ _ B' hB' hz' hle =>
          rw [hB] at hB'
          cases hB'
          refine ⟨_, _, run_idxS e1 e2 h0 h1, ?_, hk⟩
          rw [add_none, e3, ← hz hz']
          have := VR.ptr (IM := IM) (bs := bs) k (n.toNat + off) 0 B hB
          rwa [Nat.add_zero, Nat.add_mul, Nat.add_comm (n.toNat * B.sz)] at this
      split at hsz
      · rename_i u xs hk'
        obtain ⟨B, hB⟩ := getBlk hw hk'
        refine fin (.row u xs) _ B hB (fun hz => ?_) hsz
        rcases hw.obj k _ B hk' hB with ⟨g1, _⟩ | ⟨g1, _⟩
        · exact (hz g1).elim
        · exact g1
      · rename_i xs hk'
        obtain ⟨B, hB⟩ := getBlk hw hk'
        exact fin (.rowA xs) _ B hB (fun _ => (hw.obj k _ B hk' hB).1) hsz
      · exact hsz.elim
    · exact h.elim
  · rename_i hnr
    unfold idxAddrA at h
    split at h
    · rename_i u xs n
      split at h
      · rename_i z hel
        obtain ⟨hz, ⟨h0, h1⟩, hk⟩ := h
        obtain ⟨e, inf, e1, e2, e3, _⟩ := elSz_ok hel
        cases hi
        cases hx with
        | isl0 => simp at h1; omega
        | isl _ _ b o c hle m hm hb hvv =>
          refine ⟨_, _, run_idxS e1 e2 h0 h1, ?_, hk⟩
          rw [add_none, e3, hz]
          have := VR.iptr (IM := IM) (bs := bs) u xs n.toNat 0 b o m hm hb (by omega) hvv
          rwa [Nat.add_zero] at this
      · exact h.elim
    · rename_i u xs n
      split at h
      · rename_i z hel
        obtain ⟨hz, ⟨h0, h1⟩, hk⟩ := h
        obtain ⟨e, inf, e1, e2, e3, _⟩ := elSz_ok hel
        cases hi
        cases hx with
        | fsl0 => simp at h1; omega
        | fsl _ _ b o m hm hb hvv =>
          refine ⟨_, _, run_idxS e1 e2 h0 h1, ?_, hk⟩
          rw [add_none, e3, hz]
          have := VR.iptr (IM := IM) (bs := bs) u xs n.toNat 0 b o m hm hb (by omega) hvv
          rwa [Nat.add_zero] at this
      · exact h.elim
    · rename_i k off len n
      exact (hnr k off len rfl).elim
    · rename_i k j f n
      split at h
      · rename_i m z hel
        obtain ⟨⟨h0, h1, h2⟩, hk⟩ := h
        cases hi
        unfold arrEl at hel
        split at hel
        · rename_i n' e _ _ _ _ hti
          split at hel
          · rename_i ie hie
            cases hel
            obtain ⟨d, d1, d2⟩ := (C.tyok hti).1.und
            obtain ⟨inf, zz, i1, i2, _⟩ := (C.tyok hie).1.inf
            have hund : C.P.underlying t = some (.array m e) := by
              cases d <;> simp only [TDok] at d2
              obtain ⟨rfl, rfl⟩ := d2
              exact d1
            cases hx with
            | ptr _ _ _ B hB =>
              have hm1 : ¬ m ≤ 1 := by omega
              refine ⟨.pointer (some ⟨B.b, j * B.sz + (f + n.toNat * ie.sz), none⟩), _, ?_, .ptr k j _ B hB, hk⟩
              simp [Instr.indexAt, Instr.sureAddr, go_sem, run_underlying hund, run_sizeE i1, h0, h1, hm1, i2]
              try omega
          · cases hel
        · cases hel
      · exact h.elim
    · exact h.elim

/-- The address of a field. -/
def fieldAddrA (C : Ctx) (s : TypeId) (x : AV) (q : Nat) (K : AV → Prop) : Prop :=
  match C.ty s with
  | some ⟨.struct fs, _, _, _, _⟩ => match lat fs q with
    | some (fo, ft) => match C.ty ft, x with
      | some _, .ptr k j f => K (.ptr k j (f + fo))
      | some _, .iptr u xs j f => K (.iptr u xs j (f + fo))
      | _, _ => False
    | none => False
  | _ => False

theorem struct_of {C : Ctx} {s : TypeId} {fs : List (Nat × TypeId)} {a b : Nat} {c : AV} {d : Option U} (h : C.ty s = some ⟨.struct fs, a, b, c, d⟩) : ∃ fields, C.P.underlying s = some (.struct fields) ∧ fs = fields.toList.map fun f => (f.offset, f.type) := by
  obtain ⟨dd, d1, d2⟩ := (C.tyok h).1.und
  cases dd <;> simp only [TDok] at d2
  exact ⟨_, d1, d2⟩

theorem field_of {fields : Array Field} {fs : List (Nat × TypeId)} (h : fs = fields.toList.map fun f => (f.offset, f.type)) {q fo : Nat} {ft : TypeId} (hq : lat fs q = some (fo, ft)) :
    ∃ f, fields[q]? = some f ∧ f.offset = fo ∧ f.type = ft := by
  rw [lat_eq, h, List.getElem?_map] at hq
  cases hf : fields.toList[q]? with
  | none => rw [hf] at hq; cases hq
  | some f =>
    rw [hf] at hq
    simp only [Option.map_some, Option.some.injEq, Prod.mk.injEq] at hq
    exact ⟨f, by simpa using hf, hq.1, hq.2⟩

theorem fieldAddrA_ok {C : Ctx} {s : TypeId} {x : AV} {q : Nat} {K : AV → Prop} {IM : Imm} {bs : List Blk} {w : World} {vx : Value} (h : fieldAddrA C s x q K) (hx : VR IM bs vx x) :
    ∃ r av, (Instr.fieldAt s vx q).run C.P w = .ok r w ∧ VR IM bs r av ∧ K av := by
  unfold fieldAddrA at h
  split at h
  · rename_i fs _ _ _ _ hs
    obtain ⟨fields, f1, f2⟩ := struct_of hs
    split at h
    · rename_i fo ft hq
      obtain ⟨f, g1, g2, g3⟩ := field_of f2 hq
      split at h
      · rename_i ti k j f' hti
        obtain ⟨ht, hz⟩ := C.tyok hti
        obtain ⟨inf, z, i1, i2, _⟩ := ht.inf
        cases hx with
        | ptr _ _ _ B hB =>
          refine ⟨.pointer (some ⟨B.b, j * B.sz + (f' + fo), none⟩), _, ?_, .ptr k j _ B hB, h⟩
          simp [Instr.fieldAt, Instr.sureAddr, fieldPlace, go_sem, run_underlying f1, g1, g2, g3, run_sizeE i1, i2, hz]
          try omega
      · rename_i ti u xs j f' hti
        obtain ⟨ht, hz⟩ := C.tyok hti
        obtain ⟨inf, z, i1, i2, _⟩ := ht.inf
        cases hx with
        | iptr _ _ _ _ b o m hm hb hi hv =>
          refine ⟨.pointer (some ⟨b, o + j * u.sz + (f' + fo), none⟩), _, ?_, .iptr u xs j _ b o m hm hb hi hv, h⟩
          simp [Instr.fieldAt, Instr.sureAddr, fieldPlace, go_sem, run_underlying f1, g1, g2, g3, run_sizeE i1, i2, hz]
          try omega
      · exact h.elim
    · exact h.elim
  · exact h.elim

/-- A part of a value. -/
def fieldA (C : Ctx) (s : TypeId) (x : AV) (q : Nat) (K : AV → Prop) : Prop :=
  match C.ty s, x with
  | some ⟨.struct fs, _, _, _, _⟩, .agg cs => match lat fs q with
    | some (fo, ft) => match C.ty ft with
      | some i => get1 (loadC i cs fo) K
      | none => False
    | none => False
  | _, _ => False

theorem part_ok {P : Program} {IM : Imm} {bs : List Blk} {w : World} {t : TypeId} {i : TI} (ht : TOk P t i) {f : Nat} {m : Array Value} {cs : List AV} {av : AV} (hs : m.size = cs.length)
    (hc : ∀ (j : Nat) (c : AV), cs[j]? = some c → VR IM bs (m.getD j undef) c) (hl : loadC i cs f = some av) : ∃ v, (part t m f).run P w = .ok v w ∧ VR IM bs v av := by
  unfold loadC at hl
  cases ha : i.d.agg with
  | true =>
    rw [ha] at hl
    dsimp only at hl
    cases hle : Nat.ble (f + i.sz) cs.length with
    | false => rw [hle] at hl; cases hl
    | true =>
      rw [hle] at hl
      dsimp only at hl
      rw [nl_eq] at hl
      cases hl
      have hle' := Nat.le_of_ble_eq_true hle
      refine ⟨_, by simp [part, go_sem, run_isAgg ht, ha, run_sizeOf' ht]; rfl, .agg _ _ ?_ ?_⟩
      · simp; omega
      · intro j c hj
        have hj' : j < i.sz := by have := lt_of_getL hj; simp at this; omega
        rw [List.getElem?_take, if_pos hj', List.getElem?_drop] at hj
        have := hc (f + j) c hj
        have hfj : f + j < m.size := by omega
        simp only [Array.getD_eq_getD_getElem?, Array.getElem?_extract] at this ⊢
        rw [if_pos (by omega)]
        exact this
  | false =>
    rw [ha] at hl
    dsimp only at hl
    rw [lat_eq] at hl
    have hf := lt_of_getL hl
    have := hc f av hl
    refine ⟨m.getD f undef, ?_, this⟩
    have hfm : f < m.size := by omega
    simp [part, go_sem, run_isAgg ht, ha, hfm, Array.getD_eq_getD_getElem?]

theorem fieldA_ok {C : Ctx} {s : TypeId} {x : AV} {q : Nat} {K : AV → Prop} {IM : Imm} {bs : List Blk} {w : World} {vx : Value} (h : fieldA C s x q K) (hx : VR IM bs vx x) :
    ∃ r av, (Instr.field s vx q).run C.P w = .ok r w ∧ VR IM bs r av ∧ K av := by
  unfold fieldA at h
  split at h
  · rename_i fs _ _ _ _ cs hs
    obtain ⟨fields, f1, f2⟩ := struct_of hs
    split at h
    · rename_i fo ft hq
      obtain ⟨f, g1, g2, g3⟩ := field_of f2 hq
      split at h
      · rename_i i hi
        obtain ⟨av, hl, hk⟩ := get1_some h
        cases hx with
        | agg _ vs hsz hv =>
          obtain ⟨v, r1, r2⟩ := part_ok (w := w) (C.tyok hi).1 hsz hv hl
          refine ⟨v, av, ?_, r2, hk⟩
          have b1 : ∀ f : TypeDesc → Sem Value, (underlying s >>= f).run C.P w = (f (.struct fields)).run C.P w := fun f => by
            rw [Sem.run_bind, run_underlying f1]; rfl
          have b2 : ∀ f : Array Value → Sem Value, (asAgg (.agg vs) >>= f).run C.P w = (f vs).run C.P w := fun f => by
            rw [Sem.run_bind]; rfl
          unfold Instr.field
          rw [b1]
          simp only [g1]
          rw [b2, g2, g3]
          exact r1
      · exact h.elim
    · exact h.elim
  · exact h.elim

/-! ### What is left of the operations -/

def extractA (x : AV) (q : Nat) (K : AV → Prop) : Prop :=
  match x with
  | .tup vs => get1 (lat vs q) K
  | _ => False

theorem extractA_ok {P : Program} {w : World} {x : AV} {q : Nat} {K : AV → Prop} {IM : Imm} {bs : List Blk} {vx : Value} (h : extractA x q K) (hx : VR IM bs vx x) :
    ∃ r av, (Instr.extract vx q).run P w = .ok r w ∧ VR IM bs r av ∧ K av := by
  unfold extractA at h
  split at h
  · obtain ⟨a, ha, hk⟩ := get1_some h
    rw [lat_eq] at ha
    cases hx with
    | tup cs vs hs hv =>
      have := hv q a ha
      have hq := lt_of_getL ha
      refine ⟨vs.getD q undef, a, ?_, this, hk⟩
      have hq' : q < vs.size := by omega
      simp [Instr.extract, hq', Array.getD_eq_getD_getElem?]
  · exact h.elim

/-- An element of a string, or of an array that is a value. -/
def indexA (C : Ctx) (t : TypeId) (x i : AV) (K : AV → Prop) : Prop :=
  match x, i with
  | .str s, .int .i64 n => match isStr C t with
    | true => Side (0 ≤ n ∧ n < s.length) (K (.int .u8 (s.getD n.toNat 0).toNat))
    | false => False
  | _, _ => False

theorem indexA_ok {C : Ctx} {w : World} {t : TypeId} {x i : AV} {K : AV → Prop} {IM : Imm} {bs : List Blk} {vx vi : Value} (h : indexA C t x i K) (hx : VR IM bs vx x) (hi : VR IM bs vi i) :
    ∃ r av, (Instr.index t vx vi).run C.P w = .ok r w ∧ VR IM bs r av ∧ K av := by
  unfold indexA at h
  split at h
  · rename_i s n
    split at h
    · rename_i ht
      obtain ⟨⟨h0, h1⟩, hk⟩ := h
      have hu := isStr_ok ht
      cases hi
      cases hx with
      | str sb =>
        have hsz := Lib.size_eq sb
        have hn : n.toNat < sb.size := by omega
        refine ⟨_, _, ?_, .int .u8 _, hk⟩
        have e : sb[n.toNat]? = some (sb.data.toList.getD n.toNat 0) := by
          rw [List.getD_eq_getElem?_getD]
          have : n.toNat < sb.data.toList.length := by omega
          rw [List.getElem?_eq_getElem this]
          simp [getElem?_pos, hn]
          rfl
        simp [Instr.index, go_sem, run_underlying hu, h0, e]
    · exact h.elim
  · exact h.elim

def contentI (x : AV) (H : AH) (K : Nat → Prop) : Prop :=
  match x with
  | .isl _ xs => K xs.length
  | .fsl _ xs => K xs.length
  | .ref _ _ len => K len
  | .nilsl => K 0
  | _ => False

def lenA (C : Ctx) (t : TypeId) (x : AV) (H : AH) (K : AV → Prop) : Prop :=
  match x with
  | .str s => match isStr C t with
    | true => K (.int .i64 s.length)
    | false => False
  | _ => match elSz C t with
    | some _ => contentI x H fun n => K (.int .i64 n)
    | none => False

theorem lenA_ok {C : Ctx} {w : World} {H : AH} {t ty : TypeId} {x : AV} {K : AV → Prop} {IM : Imm} {bs : List Blk} {vx : Value} (h : lenA C t x H K) (hx : VR IM bs vx x) :
    ∃ r av, (Builtin.len_ #[t] ty #[vx]).run C.P w = .ok r w ∧ VR IM bs r av ∧ K av := by
  unfold lenA at h
  split at h
  · split at h
    · rename_i ht
      have hu := isStr_ok ht
      cases hx with
      | str sb =>
        refine ⟨_, _, ?_, .int .i64 _, h⟩
        rw [← Lib.size_eq]
        simp [Builtin.len_, go_sem, run_underlying hu]
    · exact h.elim
  · split at h
    · rename_i n ht
      obtain ⟨e, inf, e1, _⟩ := elSz_ok ht
      have fin : ∀ (a : Option Addr) (len c : Nat), (Builtin.len_ #[t] ty #[.slice a len c]).run C.P w = .ok (.int .i64 len) w := by
        intro a len c
        simp [Builtin.len_, go_sem, run_underlying e1]
      unfold contentI at h
      split at h
      · cases hx with
        | isl0 _ a c => exact ⟨_, _, fin a 0 c, .int _ _, h⟩
        | isl _ _ b o c => exact ⟨_, _, fin _ _ _, .int _ _, h⟩
      · cases hx with
        | fsl0 _ a => exact ⟨_, _, fin a 0 0, .int _ _, h⟩
        | fsl _ _ b o => exact ⟨_, _, fin _ _ _, .int _ _, h⟩
      · cases hx with
        | ref0 _ _ B hB hc a => exact ⟨_, _, fin a 0 0, .int _ _, h⟩
        | ref _ _ _ B => exact ⟨_, _, fin _ _ _, .int _ _, h⟩
      · cases hx
        exact ⟨_, _, fin none 0 0, .int _ _, h⟩
      · exact h.elim
    · exact h.elim

def inK : IntKind → Int → Bool
  | .u8, n => decide (0 ≤ n ∧ n < 256)
  | .i64, n => decide (-9223372036854775808 ≤ n ∧ n ≤ 9223372036854775807)
  | .u64, n => decide (0 ≤ n ∧ n ≤ 18446744073709551615)
  | _, _ => false

theorem inK_wrap {k : IntKind} {n : Int} (h : inK k n = true) : k.wrap n = n := by
  cases k <;> simp only [inK, decide_eq_true_eq, Bool.false_eq_true] at h <;>
    (simp only [IntKind.wrap, IntKind.signed, IntKind.bits]; simp; omega)

/-- Conversions. -/
def convA (C : Ctx) (src dst : TypeId) (x : AV) (H : AH) (K : AV → AH → Prop) : Prop :=
  match x, C.ty src, C.ty dst with
  | .int _ n, some _, some ⟨.int k, _, _, _, _⟩ => Ovf (inK k n = true) (K (.int k n) H) (K (.int k (k.wrap n)) H)
  | .str s, some ⟨.str, _, _, _, _⟩, some ⟨.slice e, _, _, _, _⟩ => match C.ty e with
    | some ⟨.int .u8, _, _, _, _⟩ => Side (s.length ≤ 1073741824) (K (.ref H.length 0 s.length) (H ++ [.row .u8 s]))
    | _ => False
  | _, some ⟨.slice e, _, _, _, _⟩, some ⟨.str, _, _, _, _⟩ => match C.ty e with
    | some ⟨.int .u8, _, _, _, _⟩ => match x with
      | .str _ => False
      | _ => srcA .u8 x H fun ys => K (.str ys) H
    | _ => False
  | _, _, _ => False

end Go.Abs
end

section
set_option autoImplicit false
set_option linter.unusedVariables false
set_option linter.unusedSimpArgs false
namespace Go.Abs
open Go

/-- Where the elements of a slice lie. -/
def RowAt (IM : Imm) (bs : List Blk) (w : World) (v : Value) (u : U) (ys : List (El u)) : Prop :=
  (ys = [] ∧ ∃ a c, v = .slice a 0 c) ∨ ∃ b o c cur e fz, v = .slice (some ⟨b, o, none⟩) ys.length c ∧ w.heap[b]? = some (.cells cur e fz) ∧ RowIn IM bs cur o u ys

theorem rowAt_ok {u : U} {x : AV} {H : AH} {K : List (El u) → Prop} {IM : Imm} {bs : List Blk} {w : World} {v : Value} (h : srcA u x H K) (hw : WR IM bs w H) (hv : VR IM bs v x)
    (hns : ¬ ∃ s, x = .str s) : ∃ ys, K ys ∧ RowAt IM bs w v u ys := by
  unfold srcA at h
  split at h
  · rename_i u' ys
    split at h
    · rename_i zs hz
      obtain ⟨rfl, hq⟩ := castU_some hz
      cases eq_of_heq hq
      refine ⟨_, h, ?_⟩
      cases hv with
      | isl0 => exact .inl ⟨rfl, _, _, rfl⟩
      | isl _ _ b o c hle m hm hb hvv =>
        obtain ⟨e, fz, hh⟩ := hw.imm b m hm
        exact .inr ⟨b, o, c, m, e, fz, rfl, hh, hb, fun i y j c => hvv i y j c⟩
    · exact h.elim
  · rename_i u' ys
    split at h
    · rename_i zs hz
      obtain ⟨rfl, hq⟩ := castU_some hz
      cases eq_of_heq hq
      refine ⟨_, h, ?_⟩
      cases hv with
      | fsl0 => exact .inl ⟨rfl, _, _, rfl⟩
      | fsl _ _ b o m hm hb hvv =>
        obtain ⟨e, fz, hh⟩ := hw.imm b m hm
        exact .inr ⟨b, o, _, m, e, fz, rfl, hh, hb, fun i y j c => hvv i y j c⟩
    · exact h.elim
  · cases hv
    exact ⟨_, h, .inl ⟨rfl, _, _, rfl⟩⟩
  · rename_i k off len
    rw [ath_eq] at h
    split at h
    · rename_i u' xs hkk
      split at h
      · rename_i zs hz
        obtain ⟨rfl, hq⟩ := castU_some hz
        cases eq_of_heq hq
        obtain ⟨B, hB⟩ := getBlk hw hkk
        have gen : off + len ≤ xs.length → RowAt IM bs w v u' ((xs.drop off).take len) := by
          intro hle
          cases hv with
          | ref0 _ _ B' hB' hc a =>
            have : (xs.drop off).take 0 = [] := by simp
            rw [this]
            exact .inl ⟨rfl, _, _, rfl⟩
          | ref _ _ _ B' hB' hz' hle' =>
            rw [hB] at hB'
            cases hB'
            obtain ⟨cur, e, fz, hh, _, hcs, hcap, hBz, _, hc⟩ := rowCR hw hkk hB (.inl hz')
            have hl : ((xs.drop off).take len).length = len := by simp; omega
            have hin : RowIn IM bs cur (off * B.sz) u' ((xs.drop off).take len) := by
              rw [hBz]
              refine ⟨?_, ?_⟩
              · rw [hl, hcs, ← Nat.add_mul]
                exact Nat.mul_le_mul_right _ (by omega)
              · intro i y j c hy hcc
                have hy' : xs[off + i]? = some y := by
                  rw [List.getElem?_take] at hy
                  split at hy
                  · rwa [List.getElem?_drop] at hy
                  · cases hy
                have := (hc _ _ hy').2 j c hcc
                rwa [Nat.add_mul] at this
            exact .inr ⟨B.b, off * B.sz, B.cap - off, cur, e, fz, by rw [hl], hh, hin⟩
        split at h
        · rcases h with ⟨h1, h2⟩ | ⟨h1, h2⟩
          · refine ⟨_, h2, ?_⟩
            have := gen (by omega)
            simpa [h1] using this
          · refine ⟨_, h2, ?_⟩
            have := gen (by omega)
            simpa using this
        · exact ⟨_, h.2, gen h.1⟩
      · exact h.elim
    · exact h.elim
  · exact (hns ⟨_, rfl⟩).elim
  · exact h.elim

theorem sliceTy {C : Ctx} {t : TypeId} {e : TypeId} {a b : Nat} {c : AV} {d : Option U} (h : C.ty t = some ⟨.slice e, a, b, c, d⟩) : C.P.underlying t = some (.slice e) := (C.tyok h).1.slice rfl
theorem strTy {C : Ctx} {t : TypeId} {a b : Nat} {c : AV} {d : Option U} (h : C.ty t = some ⟨.str, a, b, c, d⟩) : C.P.underlying t = some .string := by
  obtain ⟨dd, d1, d2⟩ := (C.tyok h).1.und
  cases dd <;> simp only [TDok] at d2
  exact d1
theorem intTy {C : Ctx} {t : TypeId} {k : IntKind} {a b : Nat} {c : AV} {d : Option U} (h : C.ty t = some ⟨.int k, a, b, c, d⟩) : C.P.underlying t = some (.int k) := by
  obtain ⟨dd, d1, d2⟩ := (C.tyok h).1.und
  cases dd <;> simp only [TDok] at d2
  subst d2
  exact d1

theorem convA_ok {C : Ctx} {w : World} {H : AH} {src dst : TypeId} {x : AV} {K : AV → AH → Prop} {IM : Imm} {bs : List Blk} {vx : Value} (h : convA C src dst x H K) (hw : WR IM bs w H) (hx : VR IM bs vx x) :
    ∃ r w' bs' H' av, (convert src dst vx).run C.P w = .ok r w' ∧ VR IM bs' r av ∧ WR IM bs' w' H' ∧ Ext IM bs w H IM bs' w' H' ∧ K av H' := by
  unfold convA at h
  split at h
  · rename_i k' n i k _ _ _ _ hs hd
    obtain ⟨ds, d1, _⟩ := (C.tyok hs).1.und
    have hrun : (convert src dst (.int k' n)).run C.P w = .ok (.int k (k.wrap n)) w := by
      have hd' := intTy hd
      cases ds <;> simp [convert, go_sem, run_underlying d1, run_underlying hd', Conv.intToInt]
    cases hx
    rcases h with ⟨h1, h2⟩ | h
    · rw [inK_wrap h1] at hrun
      exact ⟨_, _, _, _, _, hrun, .int _ _, hw, Ext.refl _ _ _ _, h2⟩
    · exact ⟨_, _, _, _, _, hrun, .int _ _, hw, Ext.refl _ _ _ _, h⟩
  · rename_i s _ _ _ _ e _ _ _ _ hs hd
    split at h
    · rename_i hi
      obtain ⟨hb, hk⟩ := h
      have he := intTy hi
      cases hx with
      | str sb =>
        have hrun := run_bytes_of_string (P := C.P) w src dst e sb (strTy hs) (sliceTy hd) he
        have hsz := Lib.size_eq sb
        have hcap := grownCap_ge w sb.size 0 e
        generalize grownCap w sb.size 0 e = gc at *
        have hsize : (bytesRow sb gc).size = gc := by
          unfold bytesRow
          simp only [Array.size_append, Array.size_map, Array.size_replicate]
          rw [show sb.data.size = sb.size from rfl]
          omega
        obtain ⟨r1, r2, r3⟩ := new_row (e := e) (cur := bytesRow sb gc) (u := .u8) (xs := sb.data.toList) (cap := gc) hw (w' := w.drew.alloc (.cells (bytesRow sb gc) e ((bytesRow sb gc).size, (bytesRow sb gc).size + 1)))
          ((Same.drew w).trans (Same.alloc _ _)) (fun b hb => heap_alloc_lt w.drew _ b hb) (nb := w.heap.size) (Nat.le_refl _) (heap_alloc_eq w.drew _) (.inr (Nat.le_refl _)) (by rw [hsize]; simp [U.sz]) (by omega)
          (fun i x j c hxi hc => by
            have hi' := lt_of_getL hxi
            have hj := lt_of_getL hc
            rw [enc_cells] at hj
            have : j = 0 := by simp [U.sz] at hj; omega
            subst this
            simp only [enc, AV.cells, List.getElem?_cons_zero, Option.some.injEq] at hc
            subst hc
            have e1 : (bytesRow sb gc)[i]? = some (.int .u8 x.toNat) := by
              unfold bytesRow
              rw [Array.getElem?_append_left (by simpa using hi'), Array.getElem?_map]
              have : sb.data[i]? = some x := by simpa using hxi
              rw [this]
              rfl
            simp only [U.sz, Nat.mul_one, Nat.add_zero, Array.getD_eq_getD_getElem?, e1]
            exact .int _ _)
        rw [← hsz] at r3 hk
        exact ⟨_, _, _, _, _, hrun, r3, r1, r2, hk⟩
    · exact h.elim
  · rename_i e _ _ _ _ _ _ _ _ hs hd
    split at h
    · rename_i hi
      have he := intTy hi
      split at h
      · exact h.elim
      rename_i hns
      obtain ⟨ys, hk, hr⟩ := rowAt_ok h hw hx (fun ⟨s, hs⟩ => hns s hs)
      rcases hr with ⟨rfl, a, c, rfl⟩ | ⟨b, o, c, cur, eb, fz, rfl, hh, hin⟩
      · refine ⟨_, _, _, _, _, ?_, .str (.mk #[]), hw, Ext.refl _ _ _ _, hk⟩
        cases a with
        | none => rw [run_convert_bytes_string w src dst e none 0 c (sliceTy hs) he (strTy hd)]; rfl
        | some a => exact run_convert_bytes_back w src dst e a c [] (sliceTy hs) he (strTy hd) (fun j hj => by simp at hj)
      · refine ⟨_, _, _, _, _, run_convert_bytes_back w src dst e ⟨b, o, none⟩ c ys (sliceTy hs) he (strTy hd) (fun j hj => ?_), ?_, hw, Ext.refl _ _ _ _, hk⟩
        · rw [add_none]
          have := hin.2 j _ 0 _ (List.getElem?_eq_getElem hj) rfl
          have hb := hin.1
          simp only [U.sz, Nat.mul_one] at hb this
          rw [cell_of hh (by omega)]
          simp only [Nat.add_zero] at this
          generalize cur.getD (o + j) undef = q at this
          cases this
          rfl
        · have := VR.str (IM := IM) (bs := bs) ⟨ys.toArray⟩
          simpa using this
    · exact h.elim
  · exact h.elim

end Go.Abs
end

section
set_option autoImplicit false
set_option linter.unusedVariables false
set_option linter.unusedSimpArgs false
namespace Go.Abs
open Go

def partsL (env : Env) : Nat → List (Nat × Operand) → Option (List AV)
  | _, [] => some []
  | n, (i, x) :: r => match Nat.beq i n, opd env x, partsL env (n + 1) r with
    | true, some a, some l => some (a :: l)
    | _, _, _ => none

theorem partsL_ok {IM : Imm} {bs : List Blk} {a : Act} {env : Env} (h : EnvR IM bs a.tmps env) : ∀ (ps : List (Nat × Operand)) (n : Nat) (l : List AV), partsL env n ps = some l →
    (ps.map fun (i, x) => (i, a.eval x)) = ((ps.map fun (_, x) => a.eval x).zipIdx n).map (fun x => (x.2, x.1)) ∧ ps.length = l.length ∧
    ∀ (j : Nat) (c : AV), l[j]? = some c → ∃ v, (ps.map fun (_, x) => a.eval x)[j]? = some v ∧ VR IM bs v c
  | [], n, l, hl => by cases hl; exact ⟨rfl, rfl, fun j c hc => by simp at hc⟩
  | (i, x) :: r, n, l, hl => by
    unfold partsL at hl
    split at hl
    · rename_i av l' hb hx hr
      cases hl
      obtain ⟨g1, g2, g3⟩ := partsL_ok h r (n + 1) l' hr
      have hin := Nat.eq_of_beq_eq_true hb
      refine ⟨by simp only [List.map_cons, List.zipIdx_cons, g1, hin], by simp [g2], fun j c hc => ?_⟩
      cases j with
      | zero => simp at hc; subst hc; exact ⟨_, rfl, opd_ok h hx⟩
      | succ j => simpa using g3 j c (by simpa using hc)
    · cases hl

def decAll (u : U) : List AV → Option (List (El u))
  | [] => some []
  | a :: r => match dec u a.cells, decAll u r with
    | some x, some l => some (x :: l)
    | _, _ => none

theorem decAll_ok {u : U} : ∀ (l : List AV) (xs : List (El u)), decAll u l = some xs → xs.length = l.length ∧ ∀ (i : Nat) (x : El u), xs[i]? = some x → ∃ a, l[i]? = some a ∧ dec u a.cells = some x
  | [], xs, h => by cases h; exact ⟨rfl, fun i x hx => by simp at hx⟩
  | a :: r, xs, h => by
    unfold decAll at h
    split at h
    · rename_i x l h1 h2
      cases h
      obtain ⟨g1, g2⟩ := decAll_ok r l h2
      refine ⟨by simp [g1], fun i y hy => ?_⟩
      cases i with
      | zero => simp at hy; subst hy; exact ⟨a, rfl, h1⟩
      | succ i => simpa using g2 i y (by simpa using hy)
    · cases h

def allOne : List AV → Bool
  | [] => true
  | a :: r => a.cells.all AV.one && allOne r

theorem allOne_get {l : List AV} (h : allOne l = true) : ∀ (i : Nat) (a : AV), l[i]? = some a → a.cells.all AV.one = true := by
  induction l with
  | nil => intro i a ha; simp at ha
  | cons b r ih =>
    rw [allOne, Bool.and_eq_true] at h
    intro i a ha
    cases i with
    | zero => simp at ha; subst ha; exact h.1
    | succ i => exact ih h.2 i a (by simpa using ha)

/-- A slice literal. -/
def buildSliceA (C : Ctx) (env : Env) (t : TypeId) (len : Nat) (parts : List (Nat × Operand)) (H : AH) (K : AV → AH → Prop) : Prop :=
  match C.ty t with
  | some ⟨.slice e, _, _, _, _⟩ => match C.ty e, partsL env 0 parts with
    | some ie, some vs => match Nat.beq vs.length len, allOne vs, Nat.ble (len * ie.sz) 16777216, ie.u with
      | true, true, true, some u => match decAll u vs with
        | some xs => K (.ref H.length 0 len) (H ++ [.row u xs])
        | none => False
      | true, true, true, none => match Nat.beq ie.sz 1, vs.all AV.one with
        | true, true => K (.ref H.length 0 len) (H ++ [.rowA vs])
        | _, _ => False
      | _, _, _, _ => False
    | _, _ => False
  | _ => False

theorem run_buildSlice0 {P : Program} (w : World) {t e : TypeId} {ie : TypeInfo} (hu : P.underlying t = some (.slice e)) (hie : P.info? e = some ie) :
    (Instr.buildSlice t 0 #[]).run P w = .ok (.slice (some ⟨w.heap.size, 0, none⟩) 0 0) (w.alloc (.cells #[] e)) := by
  simp [Instr.buildSlice, run_underlying hu, sizeOf, typeInfo, zeroValue, hie, newRow, Instr.fill, go_sem]

theorem buildSliceA_ok {C : Ctx} {env : Env} {t : TypeId} {len : Nat} {parts : Array (Nat × Operand)} {H : AH} {K : AV → AH → Prop} {IM : Imm} {bs : List Blk} {w : World} {a : Act}
    (h : buildSliceA C env t len parts.toList H K) (hw : WR IM bs w H) (he : EnvR IM bs a.tmps env) :
    ∃ r w' bs' H' av, (Instr.buildSlice t len (parts.map fun (i, x) => (i, a.eval x))).run C.P w = .ok r w' ∧ VR IM bs' r av ∧ WR IM bs' w' H' ∧ Ext IM bs w H IM bs' w' H' ∧ K av H' := by
  unfold buildSliceA at h
  split at h
  · rename_i e _ _ _ _ hti
    have hu := sliceTy hti
    split at h
    · rename_i ie vs hie hvs
      obtain ⟨ht, hsz0⟩ := C.tyok hie
      obtain ⟨inf, z, i1, i2, i3, i4, i5, i6, i7, i8⟩ := ht.inf
      obtain ⟨p1, p2, p3⟩ := partsL_ok he parts.toList 0 vs hvs
      have hmap : (parts.map fun (i, x) => (i, a.eval x)).toList = ((parts.toList.map fun (_, x) => a.eval x).zipIdx 0).map (fun x => (x.2, x.1)) := by
        rw [Array.toList_map]; exact p1
      have hvl : (parts.toList.map fun (_, x) => a.eval x).length = vs.length := by rw [List.length_map, p2]
      -- the filled row
      have filled : Nat.beq vs.length len = true → allOne vs = true → Nat.ble (len * ie.sz) 16777216 = true → (∀ q ∈ vs, q.cells.length = ie.sz) →
          ∃ cells, (Instr.buildSlice t len (parts.map fun (i, x) => (i, a.eval x))).run C.P w = .ok (.slice (some ⟨w.heap.size, 0, none⟩) len len) (w.alloc (.cells cells e)) ∧ cells.size = len * ie.sz ∧
            ∀ (i : Nat) (q : AV) (j : Nat) (c : AV), vs[i]? = some q → q.cells[j]? = some c → VR IM bs (cells.getD (i * ie.sz + j) undef) c := by
        intro hb ho hble hcl
        have hlen := Nat.eq_of_beq_eq_true hb
        have hsmall := Nat.le_of_ble_eq_true hble
        have hone : ∀ v ∈ (parts.toList.map fun (_, x) => a.eval x), v.cells.size = ie.sz := by
          intro v hv
          obtain ⟨j, hj⟩ := List.getElem?_of_mem hv
          have hjl := lt_of_getL hj
          rw [hvl] at hjl
          have hq := List.getElem?_eq_getElem hjl
          obtain ⟨v', hv', hr⟩ := p3 j _ hq
          rw [hj] at hv'
          cases hv'
          have := hr.cells (allOne_get ho j _ hq)
          rw [this.1]
          exact hcl _ (List.getElem_mem hjl)
        rcases Nat.eq_zero_or_pos len with h0 | hpos
        · have hv0 : vs = [] := List.length_eq_zero_iff.1 (by omega)
          have hp0 : parts = #[] := by
            apply Array.eq_empty_of_size_eq_zero
            have : parts.toList.length = 0 := by rw [p2, hv0]; rfl
            simpa using this
          subst h0
          subst hp0
          refine ⟨#[], ?_, by simp, fun i q j c hi => by rw [hv0] at hi; simp at hi⟩
          simpa using run_buildSlice0 (P := C.P) w hu i1
        · have hpos' : ¬ len * inf.size = 0 := by
            rw [i2]
            intro h0
            rcases Nat.mul_eq_zero.1 h0 with h0 | h0 <;> omega
          have hzc : z.cells.size = ie.sz := i5
          obtain ⟨r, r1, r2, r3⟩ := Great.fill_dense (s := inf.size) (by rw [i2]; omega) (parts.toList.map fun (_, x) => a.eval x) 0 ((Array.range (len * inf.size)).map (z.cells[· % z.cells.size]!))
            (by rw [i2]; exact hone) (by simp only [Nat.zero_add, hvl, hlen]; simp)
          rw [← hmap] at r1
          have hrun := run_buildSlice (P := C.P) w t e len (parts.map fun (i, x) => (i, a.eval x)) r inf z hu i1 i4 (by rw [i2]; omega) hpos' r1
          refine ⟨r, hrun, by rw [r2]; simp [i2], fun i q j c hi hc => ?_⟩
          have hil := lt_of_getL hi
          have hjl := lt_of_getL hc
          rw [hcl q (List.mem_of_getElem? hi)] at hjl
          obtain ⟨v, hv, hr⟩ := p3 i q hi
          have hk := r3 (i * ie.sz + j)
          have hrm := row_mul (sz := ie.sz) hil (Nat.le_refl _)
          rw [Nat.zero_mul, Nat.zero_add, hvl, i2, if_pos ⟨Nat.zero_le _, by omega⟩, Nat.sub_zero] at hk
          have e1 : (i * ie.sz + j) / ie.sz = i := by
            rw [Nat.add_comm, Nat.add_mul_div_right _ _ (by omega), Nat.div_eq_of_lt hjl, Nat.zero_add]
          have e2 : (i * ie.sz + j) % ie.sz = j := by
            rw [Nat.add_comm, Nat.add_mul_mod_self_right, Nat.mod_eq_of_lt hjl]
          rw [e1, e2, hv] at hk
          have := (hr.cells (allOne_get ho i q hi)).2.1 j c hc
          rw [Array.getD_eq_getD_getElem?] at this ⊢
          rw [hk]
          exact this
      split at h
      · rename_i u hb ho hble hu'
        split at h
        · rename_i xs hd
          obtain ⟨d1, d2⟩ := decAll_ok vs xs hd
          obtain ⟨u1, u2⟩ := i8 u hu'
          have hlen := Nat.eq_of_beq_eq_true hb
          obtain ⟨cells, c1, c2, c3⟩ := filled hb ho hble (fun q hq => by
            obtain ⟨i, hi⟩ := List.getElem?_of_mem hq
            have hil := lt_of_getL hi
            obtain ⟨a', ha, hda⟩ := d2 i _ (List.getElem?_eq_getElem (by rw [d1]; exact hil))
            rw [hi] at ha
            cases ha
            rw [(dec_ok hda).1, u1])
          obtain ⟨r1, r2, r3⟩ := new_row (e := e) (fz := (0, 0)) (u := u) (xs := xs) (cap := len) hw (Same.alloc w (.cells cells e)) (fun b hb => heap_alloc_lt w _ b hb) (nb := w.heap.size) (Nat.le_refl _)
            (heap_alloc_eq w _) (.inl (Nat.le_refl _)) (by rw [c2, u1]) (by omega) (fun i x j c hx hc => by
              obtain ⟨a', ha, hda⟩ := d2 i x hx
              obtain ⟨c', e1, e2⟩ := (dec_ok hda).2 j c hc
              rw [u1]
              exact e2 _ _ _ (c3 i a' j c' ha e1))
          have hxl : xs.length = len := by omega
          rw [hxl] at r3
          exact ⟨_, _, _, _, _, c1, r3, r1, r2, h⟩
        · exact h.elim
      · rename_i hb ho hble hu'
        split at h
        · rename_i hb1 hone
          have hlen := Nat.eq_of_beq_eq_true hb
          have hs1 := Nat.eq_of_beq_eq_true hb1
          have hcell : ∀ q ∈ vs, q.cells = [q] := by
            intro q hq
            have := List.all_eq_true.1 hone q hq
            cases q <;> first | rfl | cases this
          obtain ⟨cells, c1, c2, c3⟩ := filled hb ho hble (fun q hq => by rw [hcell q hq, hs1]; rfl)
          obtain ⟨r1, r2, r3⟩ := new_rowA (e := e) (fz := (0, 0)) (xs := vs) (cap := len) hw (Same.alloc w (.cells cells e)) (fun b hb => heap_alloc_lt w _ b hb) (nb := w.heap.size) (Nat.le_refl _)
            (heap_alloc_eq w _) (.inl (Nat.le_refl _)) (by rw [c2, hs1, Nat.mul_one]) (by omega) (fun i x hx => by
              have := c3 i x 0 x hx (by rw [hcell x (List.mem_of_getElem? hx)]; rfl)
              rwa [hs1, Nat.mul_one, Nat.add_zero] at this)
          rw [hlen] at r3
          exact ⟨_, _, _, _, _, c1, r3, r1, r2, h⟩
        · exact h.elim
      · exact h.elim
    · exact h.elim
  · exact h.elim

end Go.Abs
end

section
set_option autoImplicit false
set_option linter.unusedVariables false
set_option linter.unusedSimpArgs false
namespace Go.Abs
open Go

theorem foldl_wrs (off : Nat) : ∀ (l : List Value) (k : Nat) (cs : Array Value), (l.zipIdx k).foldl (fun cs (x : Value × Nat) => cs.setIfInBounds (off + x.2) x.1) cs = wrs cs (off + k) l
  | [], _, _ => rfl
  | v :: r, k, cs => by
    rw [List.zipIdx_cons, List.foldl_cons, foldl_wrs off r (k + 1), wrs, Nat.add_assoc]

theorem zipIdx_wrs (off : Nat) (v : Array Value) (cs : Array Value) : v.zipIdx.foldl (fun cs (x : Value × Nat) => cs.setIfInBounds (off + x.2) x.1) cs = wrs cs off v.toList := by
  rw [← Array.foldl_toList, Array.toList_zipIdx, foldl_wrs]
  rfl

def placesL (C : Ctx) : List (Nat × TypeId) → Option (List (Nat × Nat))
  | [] => some []
  | (o, t) :: r => match C.ty t, placesL C r with
    | some i, some l => some ((o, i.sz) :: l)
    | _, _ => none

def fillP (env : Env) (places : List (Nat × Nat)) : List (Nat × Operand) → List AV → Option (List AV)
  | [], cs => some cs
  | (q, x) :: r, cs => match lat places q, opd env x with
    | some (o, s), some a => match Nat.beq a.cells.length s, a.cells.all AV.one, storeC cs o a.cells with
      | true, true, some cs' => fillP env places r cs'
      | _, _, _ => none
    | _, _ => none

def buildA (C : Ctx) (env : Env) (t : TypeId) (parts : List (Nat × Operand)) (K : AV → Prop) : Prop :=
  match C.ty t with
  | some ⟨.struct fs, sz, _, z, _⟩ => match placesL C fs, Nat.beq z.cells.length sz, z.cells.all AV.one with
    | some places, true, true => get1 (fillP env places parts z.cells) fun cs => K (.agg cs)
    | _, _, _ => False
  | _ => False

theorem placesL_ok {C : Ctx} : ∀ (fs : List Field) (l : List (Nat × Nat)), placesL C (fs.map fun f => (f.offset, f.type)) = some l →
    fs.mapM (fun f => (C.P.info? f.type).map fun i => (f.offset, i.size)) = some l
  | [], l, h => by cases h; rfl
  | f :: r, l, h => by
    simp only [List.map_cons] at h
    unfold placesL at h
    split at h
    · rename_i i l' hi hr
      cases h
      obtain ⟨inf, z, i1, i2, _⟩ := (C.tyok hi).1.inf
      have := placesL_ok r l' hr
      simp [List.mapM_cons, i1, i2, this]
    · cases h

theorem fillP_ok {IM : Imm} {bs : List Blk} {a : Act} {env : Env} {places : List (Nat × Nat)} (h : EnvR IM bs a.tmps env) : ∀ (ps : List (Nat × Operand)) (cs cs' : List AV) (cur : Array Value), fillP env places ps cs = some cs' → CR IM bs cur 0 cs → cur.size = cs.length →
    ∃ r, Instr.fill (places.toArray[·]?) cur (ps.map fun (i, x) => (i, a.eval x)) = some r ∧ CR IM bs r 0 cs' ∧ r.size = cs'.length
  | [], cs, cs', cur, hf, hc, hs => by cases hf; exact ⟨cur, rfl, hc, hs⟩
  | (q, x) :: r, cs, cs', cur, hf, hc, hs => by
    unfold fillP at hf
    split at hf
    · rename_i o s av hq hx
      split at hf
      · rename_i cs2 hb ho hst
        have hv := opd_ok h hx
        rw [lat_eq] at hq
        obtain ⟨g1, g2, g3⟩ := hc.store hst hv ho
        obtain ⟨c1, c2, c3⟩ := hv.cells ho
        have hlen := Nat.eq_of_beq_eq_true hb
        rw [Nat.zero_add] at g1
        obtain ⟨r', r1, r2, r3⟩ := fillP_ok h r cs2 cs' _ hf g1 (by rw [wrs_size, hs, g2])
        refine ⟨r', ?_, r2, r3⟩
        simp only [List.map_cons]
        unfold Instr.fill
        have hp : places.toArray[q]? = some (o, s) := by simpa using hq
        simp only [hp]
        rw [if_neg (by rw [c1, hs]; simp; omega)]
        rw [zipIdx_wrs]
        exact r1
      · cases hf
    · cases hf

theorem buildA_ok {C : Ctx} {env : Env} {t : TypeId} {parts : Array (Nat × Operand)} {K : AV → Prop} {IM : Imm} {bs : List Blk} {w : World} {a : Act}
    (h : buildA C env t parts.toList K) (he : EnvR IM bs a.tmps env) :
    ∃ r av, (Instr.build t (parts.map fun (i, x) => (i, a.eval x))).run C.P w = .ok r w ∧ VR IM bs r av ∧ K av := by
  unfold buildA at h
  split at h
  · rename_i fs sz _ z _ hti
    obtain ⟨fields, f1, f2⟩ := struct_of hti
    obtain ⟨ht, hsz0⟩ := C.tyok hti
    obtain ⟨inf, zv, i1, i2, i3, i4, i5, i6, i7, i8⟩ := ht.inf
    split at h
    · rename_i places hp hb ho
      obtain ⟨cs, hcs, hk⟩ := get1_some h
      rw [f2] at hp
      have hpl := placesL_ok _ _ hp
      have hz := i6 IM bs
      dsimp only at hz i5
      obtain ⟨z1, z2, z3⟩ := hz.cells ho
      have hc0 : CR IM bs zv.cells 0 z.cells := ⟨by omega, fun j c hc => by rw [Nat.zero_add]; exact z2 j c hc⟩
      obtain ⟨r, r1, r2, r3⟩ := fillP_ok he parts.toList z.cells cs zv.cells hcs hc0 z1
      refine ⟨_, _, run_build (P := C.P) w t _ r ?_, .agg cs r r3 (fun j c hc => by have := r2.2 j c hc; rwa [Nat.zero_add] at this), hk⟩
      unfold Program.built
      simp only [i1, f1, i4, hpl]
      rw [Array.toList_map]
      exact r1
    · exact h.elim
  · exact h.elim

/-- append. -/
def appendA (C : Ctx) (t tx : TypeId) (s x : AV) (H : AH) (K : AV → AH → Prop) : Prop :=
  match C.ty t with
  | some ⟨.slice e, _, _, _, _⟩ => match C.ty e with
    | some ⟨_, _, by', _, some u⟩ => match Nat.ble by' 65536, (match x with | .str _ => isStr C tx | _ => match elSz C tx with | some _ => true | none => false) with
      | true, true => match s with
        | .nilsl => srcA u x H fun ys => Side (ys.length ≤ 1073741824) (K (.ref H.length 0 ys.length) (H ++ [.row u ys]))
        | .fsl u' xs => match castU u u' xs with
          | some xs => srcA u x H fun ys => Side (xs.length + ys.length ≤ 1073741824 ∧ (xs = [] ∨ ys ≠ [])) (K (.ref H.length 0 (xs.length + ys.length)) (H ++ [.row u (xs ++ ys)]))
          | none => False
        | .ref k 0 len => match ath H k with
          | some (.row u' xs) => match castU u u' xs with
            | some xs => srcA u x H fun ys => Alt (Side (len = xs.length ∧ xs.length + ys.length ≤ 1073741824) (K (.ref H.length 0 (xs ++ ys).length) (put k .dead H ++ [.row u (xs ++ ys)])))
                (Side (len ≤ xs.length ∧ len + ys.length ≤ 1073741824) (K (.ref H.length 0 (len + ys.length)) (put k .dead H ++ [.row u (xs.take len ++ ys)])))
            | none => False
          | _ => False
        | _ => False
      | _, _ => False
    | _ => False
  | _ => False

theorem appendA_ok {C : Ctx} {t tx ty : TypeId} {s x : AV} {H : AH} {K : AV → AH → Prop} {IM : Imm} {bs : List Blk} {w : World} {vs vx : Value} (h : appendA C t tx s x H K) (hw : WR IM bs w H) (hs : VR IM bs vs s) (hx : VR IM bs vx x) :
    ∃ r w' bs' H' av, (Builtin.append_ #[t, tx] ty #[vs, vx]).run C.P w = .ok r w' ∧ VR IM bs' r av ∧ WR IM bs' w' H' ∧ Ext IM bs w H IM bs' w' H' ∧ K av H' := by
  unfold appendA at h
  split at h
  · rename_i e _ _ _ _ hti
    have hu := sliceTy hti
    split at h
    · rename_i d sz by' z u hie
      obtain ⟨ht, hsz0⟩ := C.tyok hie
      obtain ⟨inf, zv, i1, i2, i3, i4, i5, i6, i7, i8⟩ := ht.inf
      dsimp only at i2 i3 i5 i8
      obtain ⟨u1, u2⟩ := i8 u rfl
      split at h
      · rename_i hble htx
        have hby : inf.bytes ≤ 65536 := by rw [i3]; exact Nat.le_of_ble_eq_true hble
        have k1 : (∃ s, x = .str s) → C.P.underlying tx = some .string := by
          rintro ⟨s', rfl⟩
          exact isStr_ok htx
        have k2 : (¬ ∃ s, x = .str s) → ∃ e', C.P.underlying tx = some (.slice e') := by
          intro hn
          split at htx
          · exact (hn ⟨_, rfl⟩).elim
          · split at htx
            · rename_i hel
              obtain ⟨e', _, h1, _⟩ := elSz_ok hel
              exact ⟨e', h1⟩
            · cases htx
        have a1 : inf.size = u.sz := by rw [i2, u1]
        have a2 : zv.cells.size = u.sz := by rw [i5, u1]
        split at h
        · obtain ⟨ys, ⟨hb, hk⟩, hsr⟩ := srcA_ok (P := C.P) h hw hx k1 k2
          cases hs
          obtain ⟨r, w', bs', r1, r2, r3, r4⟩ := append_new (ty := ty) hw hu i1 i4 a1 a2 hby (VR.fsl0 u none) hsr (by simpa using hb) (.inl rfl)
          simp only [List.nil_append, List.length_nil, Nat.zero_add] at r2 r3 r4
          exact ⟨r, w', bs', _, _, r1, r4, r2, r3, hk⟩
        · rename_i u' xs0
          split at h
          · rename_i xs hz
            obtain ⟨rfl, hq⟩ := castU_some hz
            cases eq_of_heq hq
            obtain ⟨ys, ⟨⟨hb, hne⟩, hk⟩, hsr⟩ := srcA_ok (P := C.P) h hw hx k1 k2
            obtain ⟨r, w', bs', r1, r2, r3, r4⟩ := append_new (ty := ty) hw hu i1 i4 a1 a2 hby hs hsr hb hne
            exact ⟨r, w', bs', _, _, r1, r4, r2, r3, hk⟩
          · exact h.elim
        · rename_i k len
          rw [ath_eq] at h
          split at h
          · rename_i u' xs0 hkk
            split at h
            · rename_i xs hz
              obtain ⟨rfl, hq⟩ := castU_some hz
              cases eq_of_heq hq
              obtain ⟨ys, hk, hsr⟩ := srcA_ok (P := C.P) h hw hx k1 k2
              rcases hk with ⟨⟨rfl, hb⟩, hk⟩ | ⟨⟨hle, hb⟩, hk⟩
              · obtain ⟨r, w', bs', r1, r2, r3, r4⟩ := append_ref (ty := ty) hw hu i1 i4 a1 a2 hby hkk (Nat.le_refl _) hs hsr hb
                rw [List.take_length, ← put_eq] at r2 r3
                rw [List.length_append] at hk
                exact ⟨r, w', bs', _, _, r1, r4, r2, r3, hk⟩
              · obtain ⟨r, w', bs', r1, r2, r3, r4⟩ := append_ref (ty := ty) hw hu i1 i4 a1 a2 hby hkk hle hs hsr hb
                rw [← put_eq] at r2 r3
                exact ⟨r, w', bs', _, _, r1, r4, r2, r3, hk⟩
            · exact h.elim
          · exact h.elim
        · exact h.elim
      · exact h.elim
    · exact h.elim
  · exact h.elim

end Go.Abs
end

section
set_option autoImplicit false
set_option linter.unusedVariables false
set_option linter.unusedSimpArgs false
namespace Go.Abs
open Go

def eqFs (C : Ctx) (eq : TypeId → AV → AV → Option Bool) (xs ys : List AV) : List (Nat × TypeId) → Option Bool
  | [] => some true
  | (o, ft) :: r => match C.ty ft with
    | some i => match loadC i xs o, loadC i ys o with
      | some a, some b => match eq ft a b, eqFs C eq xs ys r with
        | some p, some q => some (p && q)
        | _, _ => none
      | _, _ => none
    | none => none

def eqS (C : Ctx) (t : TypeId) (x y : AV) : Option Bool :=
  match x, y, C.ty t with
  | .int .i64 a, .int .i64 b, some ⟨.int .i64, _, _, _, _⟩ => some (decide (a = b))
  | .bool a, .bool b, some ⟨.bool, _, _, _, _⟩ => some (a == b)
  | .str a, .str b, some ⟨.str, _, _, _, _⟩ => some (decide (a = b))
  | _, _, _ => none

def eqA (C : Ctx) : Nat → TypeId → AV → AV → Option Bool
  | 0, t, x, y => eqS C t x y
  | n + 1, t, x, y => match x, y, C.ty t with
    | .agg xs, .agg ys, some ⟨.struct fs, _, _, _, _⟩ => eqFs C (eqA C n) xs ys fs
    | _, _, _ => eqS C t x y

theorem boolTy {C : Ctx} {t : TypeId} {a b : Nat} {c : AV} {d : Option U} (h : C.ty t = some ⟨.bool, a, b, c, d⟩) : C.P.underlying t = some .bool := by
  obtain ⟨dd, d1, d2⟩ := (C.tyok h).1.und
  cases dd <;> simp only [TDok] at d2
  exact d1

theorem eqS_ok {C : Ctx} {t : TypeId} {x y : AV} {r : Bool} {IM : Imm} {bs : List Blk} {vx vy : Value} (h : eqS C t x y = some r) (hx : VR IM bs vx x) (hy : VR IM bs vy y) (d : Nat) (w : World) :
    (Op.equalIn (d + 1) t vx vy).run C.P w = .ok r w := by
  unfold eqS at h
  split at h
  · rename_i hi
    cases h
    cases hx; cases hy
    exact run_equalIn_int w d t _ _ _ _ (intTy hi)
  · rename_i hi
    cases h
    cases hx; cases hy
    exact run_equalIn_bool' w d t _ _ (boolTy hi)
  · rename_i hi
    cases h
    cases hx with
    | str sx =>
    cases hy with
    | str sy =>
    rw [run_equalIn_string w d t _ _ (strTy hi)]
    congr 1
    rw [Lib.toList_data, Lib.toList_data]
    rw [Bool.eq_iff_iff, beq_iff_eq, decide_eq_true_eq]
  · cases h

theorem eqFs_ok {C : Ctx} {eq : TypeId → AV → AV → Option Bool} {IM : Imm} {bs : List Blk} {w : World} {d : Nat} {xs ys : List AV} {vx vy : Array Value} (hsx : vx.size = xs.length) (hsy : vy.size = ys.length)
    (hx : ∀ (j : Nat) (c : AV), xs[j]? = some c → VR IM bs (vx.getD j undef) c) (hy : ∀ (j : Nat) (c : AV), ys[j]? = some c → VR IM bs (vy.getD j undef) c)
    (heq : ∀ (t : TypeId) (a b : AV) (r : Bool) (va vb : Value), eq t a b = some r → VR IM bs va a → VR IM bs vb b → (Op.equalIn d t va vb).run C.P w = .ok r w) :
    ∀ (fs : List Field) (r : Bool), (∀ f ∈ fs, f.name ≠ "_") → eqFs C eq xs ys (fs.map fun f => (f.offset, f.type)) = some r → (Op.eqFields d vx vy fs).run C.P w = .ok r w
  | [], r, hn, h => by cases h; simp [Op.eqFields]
  | f :: fs, r, hn, h => by
    simp only [List.map_cons] at h
    unfold eqFs at h
    split at h
    · rename_i i hi
      split at h
      · rename_i a b ha hb
        split at h
        · rename_i p q hp hq
          cases h
          obtain ⟨va, a1, a2⟩ := part_ok (w := w) (C.tyok hi).1 hsx hx ha
          obtain ⟨vb, b1, b2⟩ := part_ok (w := w) (C.tyok hi).1 hsy hy hb
          have hr := heq _ _ _ _ _ _ hp a2 b2
          have ih := eqFs_ok hsx hsy hx hy heq fs q (fun g hg => hn g (List.mem_cons_of_mem _ hg)) hq
          unfold Op.eqFields
          rw [if_pos (hn f List.mem_cons_self)]
          rw [Sem.run_bind, a1]
          simp only [Result.andThen_ok]
          rw [Sem.run_bind, b1]
          simp only [Result.andThen_ok]
          rw [Sem.run_bind, hr]
          simp only [Result.andThen_ok]
          cases p
          · simp
          · simp [ih]
        · cases h
      · cases h
    · cases h

theorem eqA_ok {C : Ctx} {IM : Imm} {bs : List Blk} {w : World} : ∀ (n : Nat) (t : TypeId) (x y : AV) (r : Bool) (vx vy : Value), eqA C n t x y = some r → VR IM bs vx x → VR IM bs vy y → ∀ d, n ≤ d →
    (Op.equalIn (d + 1) t vx vy).run C.P w = .ok r w
  | 0, t, x, y, r, vx, vy, h, hx, hy, d, hd => eqS_ok h hx hy d w
  | n + 1, t, x, y, r, vx, vy, h, hx, hy, d, hd => by
    unfold eqA at h
    split at h
    · rename_i xs ys fs _ _ _ _ hi
      obtain ⟨fields, f1, f2⟩ := struct_of hi
      obtain ⟨e1, e2, e3⟩ := C.eqs t _ fs (Ctx.nth hi) rfl
      cases hx with
      | agg _ va hsx hvx =>
      cases hy with
      | agg _ vb hsy hvy =>
      obtain ⟨d', rfl⟩ : ∃ d', d = d' + 1 := ⟨d - 1, by omega⟩
      have hf : C.P.fieldsOf t = fields := by simp [Program.fieldsOf, f1]
      rw [run_equalIn_struct w (d' + 1) t va vb (by rw [hf]; exact f1) e1, hf]
      rw [f2] at h
      exact eqFs_ok hsx hsy hvx hvy (fun t a b r va vb he h1 h2 => eqA_ok n t a b r va vb he h1 h2 d' (by omega)) fields.toList r (e3 fields f1) h
    · exact eqS_ok h hx hy d w

/-- Comparisons besides the operators on numbers and strings. -/
def binX (C : Ctx) (op : BinOp) (t : TypeId) (x y : AV) (K : AV → Prop) : Prop :=
  match op, x, y with
  | .eql, .agg xs, .agg ys => get1 (eqA C 2 t (.agg xs) (.agg ys)) fun r => K (.bool r)
  | .neq, .agg xs, .agg ys => get1 (eqA C 2 t (.agg xs) (.agg ys)) fun r => K (.bool (!r))
  | .eql, .bool a, .bool b => get1 (eqS C t (.bool a) (.bool b)) fun r => K (.bool r)
  | .neq, .bool a, .bool b => get1 (eqS C t (.bool a) (.bool b)) fun r => K (.bool (!r))
  | .eql, .isl _ xs, .nilsl => match elSz C t with
    | some _ => ∀ b : Bool, (b = true → xs = []) → K (.bool b)
    | none => False
  | .neq, .isl _ xs, .nilsl => match elSz C t with
    | some _ => ∀ b : Bool, (b = false → xs = []) → K (.bool b)
    | none => False
  | .eql, .ref _ _ len, .nilsl => match elSz C t with
    | some _ => ∀ b : Bool, (b = true → len = 0) → K (.bool b)
    | none => False
  | .eql, .nilsl, .nilsl => match elSz C t with
    | some _ => K (.bool true)
    | none => False
  | _, _, _ => binA op x y K

theorem run_eqNil {P : Program} {w : World} {t e : TypeId} (ht : P.underlying t = some (.slice e)) (a : Option Addr) (n c : Nat) : (Op.equal t (.slice a n c) (.slice none 0 0)).run P w = .ok a.isNone w := by
  show (Op.equalIn (9999 + 1) t (.slice a n c) (.slice none 0 0)).run P w = _
  generalize 9999 = q
  cases a <;> simp [Op.equalIn, go_sem, run_underlying ht]

theorem binOp_eql (t : TypeId) (x y : Value) (h : (∃ a b, x = .agg a ∧ y = .agg b) ∨ (∃ a b, x = .bool a ∧ y = .bool b) ∨ (∃ a n c b m d, x = .slice a n c ∧ y = .slice b m d)) :
    binOp .eql t x y = (do pure (.bool (← Op.equal t x y))) ∧ binOp .neq t x y = (do pure (.bool (!(← Op.equal t x y)))) := by
  rcases h with ⟨a, b, rfl, rfl⟩ | ⟨a, b, rfl, rfl⟩ | ⟨a, n, c, b, m, d, rfl, rfl⟩ <;> exact ⟨rfl, rfl⟩

theorem guard_none {P : Program} {w : World} (op : BinOp) (t : TypeId) (xo yo : Operand) (x y : Value) (h : (∃ a b, x = .bool a ∧ y = .bool b) ∨ (∃ a n c b m d, x = .slice a n c ∧ y = .slice b m d)) :
    (eqGuard op t xo yo x y).run P w = .ok () w := by
  rcases h with ⟨a, b, rfl, rfl⟩ | ⟨a, n, c, b, m, d, rfl, rfl⟩ <;> cases op <;> simp [eqGuard]

theorem guard_agg {P : Program} {w : World} (op : BinOp) (t : TypeId) (xo yo : Operand) (a b : Array Value) (h : P.eqGuardType P.depth t = false) :
    (eqGuard op t xo yo (.agg a) (.agg b)).run P w = .ok () w := by
  cases op <;> simp [eqGuard, h]

theorem binX_ok {C : Ctx} {w : World} {IM : Imm} {bs : List Blk} {op : BinOp} {t : TypeId} {xo yo : Operand} {vx vy : Value} {x y : AV} {K : AV → Prop}
    (h : binX C op t x y K) (hx : VR IM bs vx x) (hy : VR IM bs vy y) :
    ∃ v av, (do eqGuard op t xo yo vx vy; binOp op t vx vy : Sem Value).run C.P w = .ok v w ∧ VR IM bs v av ∧ K av := by
  have agg : ∀ (xs ys : List AV) (r : Bool), VR IM bs vx (.agg xs) → VR IM bs vy (.agg ys) → eqA C 2 t (.agg xs) (.agg ys) = some r →
      (∀ op', (eqGuard op' t xo yo vx vy).run C.P w = .ok () w) ∧ (Op.equal t vx vy).run C.P w = .ok r w ∧ ∃ a b, vx = .agg a ∧ vy = .agg b := by
    intro xs ys r h1 h2 he
    have hr : (Op.equal t vx vy).run C.P w = .ok r w := eqA_ok 2 t _ _ r vx vy he h1 h2 9999 (by omega)
    have hg : C.P.eqGuardType C.P.depth t = false := by
      unfold eqA at he
      split at he
      · rename_i hi
        exact (C.eqs t _ _ (Ctx.nth hi) rfl).2.1
      · rename_i hn
        unfold eqS at he
        split at he <;> simp_all
    cases h1 with
    | agg _ a =>
    cases h2 with
    | agg _ b =>
    exact ⟨fun op' => guard_agg op' t xo yo a b hg, hr, a, b, rfl, rfl⟩
  have sl : ∀ (a : Option Addr) (n c : Nat), vx = .slice a n c → vy = .slice none 0 0 → ∀ z, elSz C t = some z →
      (do eqGuard .eql t xo yo vx vy; binOp .eql t vx vy : Sem Value).run C.P w = .ok (.bool a.isNone) w ∧
      (do eqGuard .neq t xo yo vx vy; binOp .neq t vx vy : Sem Value).run C.P w = .ok (.bool (!a.isNone)) w := by
    intro a n c e1 e2 z hz
    subst e1 e2
    obtain ⟨e, inf, hu, _⟩ := elSz_ok hz
    have hq := run_eqNil (P := C.P) (w := w) hu a n c
    have hb := binOp_eql t (.slice a n c) (.slice none 0 0) (.inr (.inr ⟨_, _, _, _, _, _, rfl, rfl⟩))
    rw [hb.1, hb.2]
    constructor
    · rw [Sem.run_bind, guard_none _ _ _ _ _ _ (.inr ⟨_, _, _, _, _, _, rfl, rfl⟩)]
      simp only [Result.andThen_ok]
      rw [Sem.run_bind, hq]
      rfl
    · rw [Sem.run_bind, guard_none _ _ _ _ _ _ (.inr ⟨_, _, _, _, _, _, rfl, rfl⟩)]
      simp only [Result.andThen_ok]
      rw [Sem.run_bind, hq]
      rfl
  unfold binX at h
  split at h
  · obtain ⟨r, hr, hk⟩ := get1_some h
    obtain ⟨g1, g2, a, b, e1, e2⟩ := agg _ _ r hx hy hr
    refine ⟨.bool r, _, ?_, .bool r, hk⟩
    rw [(binOp_eql t vx vy (.inl ⟨a, b, e1, e2⟩)).1, Sem.run_bind, g1]
    simp only [Result.andThen_ok]
    rw [Sem.run_bind, g2]
    rfl
  · obtain ⟨r, hr, hk⟩ := get1_some h
    obtain ⟨g1, g2, a, b, e1, e2⟩ := agg _ _ r hx hy hr
    refine ⟨.bool (!r), _, ?_, .bool _, hk⟩
    rw [(binOp_eql t vx vy (.inl ⟨a, b, e1, e2⟩)).2, Sem.run_bind, g1]
    simp only [Result.andThen_ok]
    rw [Sem.run_bind, g2]
    rfl
  · obtain ⟨r, hr, hk⟩ := get1_some h
    have hq : (Op.equal t vx vy).run C.P w = .ok r w := eqS_ok hr hx hy 9999 w
    cases hx; cases hy
    refine ⟨.bool r, _, ?_, .bool r, hk⟩
    rw [(binOp_eql t _ _ (.inr (.inl ⟨_, _, rfl, rfl⟩))).1, Sem.run_bind, guard_none _ _ _ _ _ _ (.inl ⟨_, _, rfl, rfl⟩)]
    simp only [Result.andThen_ok]
    rw [Sem.run_bind, hq]
    rfl
  · obtain ⟨r, hr, hk⟩ := get1_some h
    have hq : (Op.equal t vx vy).run C.P w = .ok r w := eqS_ok hr hx hy 9999 w
    cases hx; cases hy
    refine ⟨.bool (!r), _, ?_, .bool _, hk⟩
    rw [(binOp_eql t _ _ (.inr (.inl ⟨_, _, rfl, rfl⟩))).2, Sem.run_bind, guard_none _ _ _ _ _ _ (.inl ⟨_, _, rfl, rfl⟩)]
    simp only [Result.andThen_ok]
    rw [Sem.run_bind, hq]
    rfl
  · split at h
    · rename_i hz
      cases hy
      cases hx with
      | isl0 _ a c => exact ⟨_, _, (sl a 0 c rfl rfl _ hz).1, .bool _, h _ fun _ => rfl⟩
      | isl _ _ b o c => exact ⟨_, _, (sl _ _ c rfl rfl _ hz).1, .bool _, h _ fun h => by cases h⟩
    · exact h.elim
  · split at h
    · rename_i hz
      cases hy
      cases hx with
      | isl0 _ a c => exact ⟨_, _, (sl a 0 c rfl rfl _ hz).2, .bool _, h _ fun _ => rfl⟩
      | isl _ _ b o c => exact ⟨_, _, (sl _ _ c rfl rfl _ hz).2, .bool _, h _ fun h => by cases h⟩
    · exact h.elim
  · split at h
    · rename_i hz
      cases hy
      cases hx with
      | ref0 _ _ B hB hc a => exact ⟨_, _, (sl a 0 0 rfl rfl _ hz).1, .bool _, h _ fun _ => rfl⟩
      | ref _ _ _ B => exact ⟨_, _, (sl _ _ _ rfl rfl _ hz).1, .bool _, h _ fun h => by cases h⟩
    · exact h.elim
  · split at h
    · rename_i hz
      cases hy
      cases hx
      exact ⟨_, _, (sl none 0 0 rfl rfl _ hz).1, .bool _, h⟩
    · exact h.elim
  · exact binA_ok h hx hy

end Go.Abs
end
