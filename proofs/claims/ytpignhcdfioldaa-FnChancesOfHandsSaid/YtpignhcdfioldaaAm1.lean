import Derived.WalkKit
import Derived.Deep.AppendSrc
import Derived.Lib.Strings
import Derived.Laws.MakeOwn

section
set_option autoImplicit false
namespace Go.Abs
open Go

structure Ti where
  lo : Int
  hi : Int
  deriving DecidableEq, Inhabited, Repr
structure Pl where
  tile : Ti
  arm : Int
  deriving DecidableEq, Inhabited, Repr
structure Ar where
  stop : Int
  dbl : Bool
  side : Bool
  deriving DecidableEq, Inhabited, Repr
structure La where
  tile : Ti
  left : Bool
  pass : Bool
  deriving DecidableEq, Inhabited, Repr

/-- The kinds of elements of slices. -/
inductive U where
  | int | u8 | bool | str | tile | play | arm | lay | list (u : U)
  deriving DecidableEq, Repr

@[reducible] def El : U → Type
  | .int => Int
  | .u8 => UInt8
  | .bool => Bool
  | .str => List UInt8
  | .tile => Ti
  | .play => Pl
  | .arm => Ar
  | .lay => La
  | .list u => List (El u)

def dflt : (u : U) → El u
  | .int => 0
  | .u8 => 0
  | .bool => false
  | .str => []
  | .tile => ⟨0, 0⟩
  | .play => ⟨⟨0, 0⟩, 0⟩
  | .arm => ⟨0, false, false⟩
  | .lay => ⟨⟨0, 0⟩, false, false⟩
  | .list _ => []

def U.sz : U → Nat
  | .tile => 2
  | .play => 3
  | .arm => 3
  | .lay => 4
  | _ => 1

theorem U.sz_pos (u : U) : 0 < u.sz := by cases u <;> simp [U.sz]

/-- A value, as the plain side sees it. -/
inductive AV where
  | int (k : IntKind) (n : Int)
  | bool (b : Bool)
  | str (s : List UInt8)
  | nilp
  | ptr (k i f : Nat)
  | iptr (u : U) (xs : List (El u)) (i f : Nat)
  | nilsl
  | isl (u : U) (xs : List (El u))
  | fsl (u : U) (xs : List (El u))
  | ref (k off len : Nat)
  | mp (k : Nat)
  | nilmap
  | fn (f : FuncId) (caps : List AV)
  | nilfn
  | nili
  | nni
  | agg (cs : List AV)
  | tup (vs : List AV)
  | junk

def AV.cells : AV → List AV
  | .agg cs => cs
  | v => [v]

def enc : (u : U) → El u → AV
  | .int, n => .int .i64 n
  | .u8, b => .int .u8 b.toNat
  | .bool, b => .bool b
  | .str, s => .str s
  | .tile, t => .agg [.int .i64 t.lo, .int .i64 t.hi]
  | .play, p => .agg [.int .i64 p.tile.lo, .int .i64 p.tile.hi, .int .i64 p.arm]
  | .arm, a => .agg [.int .i64 a.stop, .bool a.dbl, .bool a.side]
  | .lay, m => .agg [.int .i64 m.tile.lo, .int .i64 m.tile.hi, .bool m.left, .bool m.pass]
  | .list u, xs => .isl u xs

theorem enc_cells (u : U) (x : El u) : (enc u x).cells.length = u.sz := by
  cases u <;> rfl

def dInt : List AV → Option Int
  | [.int .i64 n] => some n
  | _ => none
def dU8 : List AV → Option UInt8
  | [.int .u8 n] => match decide (0 ≤ n ∧ n < 256) with
    | true => some (UInt8.ofNat n.toNat)
    | false => none
  | _ => none
def dBool : List AV → Option Bool
  | [.bool b] => some b
  | _ => none
def dStr : List AV → Option (List UInt8)
  | [.str b] => some b
  | _ => none
def dTile : List AV → Option Ti
  | [.int .i64 a, .int .i64 b] => some ⟨a, b⟩
  | _ => none
def dPlay : List AV → Option Pl
  | [.int .i64 a, .int .i64 b, .int .i64 c] => some ⟨⟨a, b⟩, c⟩
  | _ => none
def dArm : List AV → Option Ar
  | [.int .i64 a, .bool b, .bool c] => some ⟨a, b, c⟩
  | _ => none
def dLay : List AV → Option La
  | [.int .i64 a, .int .i64 b, .bool c, .bool d] => some ⟨⟨a, b⟩, c, d⟩
  | _ => none
def castG : (u u' : U) → (F : U → Type) → F u' → Option (F u)
  | .int, .int, _, x => some x
  | .u8, .u8, _, x => some x
  | .bool, .bool, _, x => some x
  | .str, .str, _, x => some x
  | .tile, .tile, _, x => some x
  | .play, .play, _, x => some x
  | .arm, .arm, _, x => some x
  | .lay, .lay, _, x => some x
  | .list a, .list b, F, x => castG a b (fun c => F (.list c)) x
  | _, _, _, _ => none
def castU (u u' : U) (xs : List (El u')) : Option (List (El u)) := castG u u' (fun c => List (El c)) xs
def dList (u : U) : List AV → Option (List (El u))
  | [.isl u' xs] => castU u u' xs
  | [.nilsl] => some []
  | _ => none

/-- The other way: what an element is, told by its cells. -/
def dec : (u : U) → List AV → Option (El u)
  | .int => dInt
  | .u8 => dU8
  | .bool => dBool
  | .str => dStr
  | .tile => dTile
  | .play => dPlay
  | .arm => dArm
  | .lay => dLay
  | .list u => dList u

structure Blk where
  b : Nat
  sz : Nat
  cap : Nat

abbrev Imm := Nat → Option (Array Value)

/-- The machine's value, told by the plain one: IM: rows that never turn any more; bs: where the call's own objects lie. -/
inductive VR (IM : Imm) (bs : List Blk) : Value → AV → Prop
  | int (k : IntKind) (n : Int) : VR IM bs (.int k n) (.int k n)
  | bool (b : Bool) : VR IM bs (.bool b) (.bool b)
  | str (s : ByteArray) : VR IM bs (.string s) (.str s.data.toList)
  | nilp : VR IM bs (.pointer none) .nilp
  | ptr (k i f : Nat) (B : Blk) (hB : bs[k]? = some B) : VR IM bs (.pointer (some ⟨B.b, i * B.sz + f, none⟩)) (.ptr k i f)
  | iptr (u : U) (xs : List (El u)) (i f b o : Nat) (m : Array Value) (hm : IM b = some m) (hb : o + xs.length * u.sz ≤ m.size) (hi : i < xs.length)
      (hv : ∀ i x j c, xs[i]? = some x → (enc u x).cells[j]? = some c → VR IM bs (m.getD (o + i * u.sz + j) undef) c) :
      VR IM bs (.pointer (some ⟨b, o + i * u.sz + f, none⟩)) (.iptr u xs i f)
  | nilsl : VR IM bs (.slice none 0 0) .nilsl
  | isl0 (u : U) (a : Option Addr) (c : Nat) : VR IM bs (.slice a 0 c) (.isl u [])
  | isl (u : U) (xs : List (El u)) (b o c : Nat) (hle : xs.length ≤ c) (m : Array Value) (hm : IM b = some m) (hb : o + xs.length * u.sz ≤ m.size)
      (hv : ∀ i x j c, xs[i]? = some x → (enc u x).cells[j]? = some c → VR IM bs (m.getD (o + i * u.sz + j) undef) c) :
      VR IM bs (.slice (some ⟨b, o, none⟩) xs.length c) (.isl u xs)
  | fsl0 (u : U) (a : Option Addr) : VR IM bs (.slice a 0 0) (.fsl u [])
  | fsl (u : U) (xs : List (El u)) (b o : Nat) (m : Array Value) (hm : IM b = some m) (hb : o + xs.length * u.sz ≤ m.size)
      (hv : ∀ i x j c, xs[i]? = some x → (enc u x).cells[j]? = some c → VR IM bs (m.getD (o + i * u.sz + j) undef) c) :
      VR IM bs (.slice (some ⟨b, o, none⟩) xs.length xs.length) (.fsl u xs)
  | ref0 (k off : Nat) (B : Blk) (hB : bs[k]? = some B) (hc : B.cap ≤ off) (a : Option Addr) : VR IM bs (.slice a 0 0) (.ref k off 0)
  | ref (k off len : Nat) (B : Blk) (hB : bs[k]? = some B) (hz : B.sz ≠ 0) (h : off + len ≤ B.cap) :
      VR IM bs (.slice (some ⟨B.b, off * B.sz, none⟩) len (B.cap - off)) (.ref k off len)
  | mp (k : Nat) (B : Blk) (hB : bs[k]? = some B) : VR IM bs (.map (some B.b)) (.mp k)
  | nilmap : VR IM bs (.map none) .nilmap
  | fn (f : FuncId) (caps : List AV) (cs : Array Value) (hs : cs.size = caps.length) (hv : ∀ j c, caps[j]? = some c → VR IM bs (cs.getD j undef) c) :
      VR IM bs (.func (.func f) #[] cs) (.fn f caps)
  | nilfn : VR IM bs .nilFunc .nilfn
  | nili : VR IM bs .nilIface .nili
  | nni (t : TypeId) (v : Value) : VR IM bs (.iface t v) .nni
  | agg (cs : List AV) (vs : Array Value) (hs : vs.size = cs.length) (hv : ∀ j c, cs[j]? = some c → VR IM bs (vs.getD j undef) c) : VR IM bs (.agg vs) (.agg cs)
  | tup (cs : List AV) (vs : Array Value) (hs : vs.size = cs.length) (hv : ∀ j c, cs[j]? = some c → VR IM bs (vs.getD j undef) c) : VR IM bs (.tuple vs) (.tup cs)
  | junk (v : Value) : VR IM bs v .junk

def Imm.le (I J : Imm) : Prop := ∀ b m, I b = some m → J b = some m
theorem Imm.le_refl (I : Imm) : I.le I := fun _ _ h => h
theorem Imm.le_trans {I J K : Imm} (h : I.le J) (h' : J.le K) : I.le K := fun b m x => h' b m (h b m x)

theorem prefix_get {α : Type} {a b : List α} (h : a <+: b) {k : Nat} {x : α} (hx : a[k]? = some x) : b[k]? = some x := by
  obtain ⟨t, rfl⟩ := h
  have : k < a.length := by
    rcases Nat.lt_or_ge k a.length with h | h
    · exact h
    · rw [List.getElem?_eq_none h] at hx; cases hx
  rw [List.getElem?_append_left this]; exact hx

theorem VR.mono {IM IM' : Imm} {bs bs' : List Blk} (hI : IM.le IM') (hb : bs <+: bs') {v : Value} {a : AV} (h : VR IM bs v a) : VR IM' bs' v a := by
  induction h with
  | int => constructor
  | bool => constructor
  | str => constructor
  | nilp => constructor
  | ptr k i f B hB => exact .ptr k i f B (prefix_get hb hB)
  | iptr u xs i f b o m hm hb' hi hv ih => exact .iptr u xs i f b o m (hI _ _ hm) hb' hi ih
  | nilsl => constructor
  | isl0 => constructor
  | isl u xs b o c hle m hm hb' hv ih => exact .isl u xs b o c hle m (hI _ _ hm) hb' ih
  | fsl0 => constructor
  | fsl u xs b o m hm hb' hv ih => exact .fsl u xs b o m (hI _ _ hm) hb' ih
  | ref0 k off B hB hc a => exact .ref0 k off B (prefix_get hb hB) hc a
  | ref k off len B hB hz h => exact .ref k off len B (prefix_get hb hB) hz h
  | mp k B hB => exact .mp k B (prefix_get hb hB)
  | nilmap => constructor
  | fn f caps cs hs hv ih => exact .fn f caps cs hs ih
  | nilfn => constructor
  | nili => constructor
  | nni => constructor
  | agg cs vs hs hv ih => exact .agg cs vs hs ih
  | tup cs vs hs hv ih => exact .tup cs vs hs ih
  | junk => constructor

/-- A condition, and what follows. -/
structure Side (p q : Prop) : Prop where
  c : p
  k : q
/-- Two ways, by a truth value. -/
structure Br (b : Bool) (p q : Prop) : Prop where
  t : b = true → p
  f : b = false → q
theorem Br.tt {p q : Prop} (h : p) : Br true p q := ⟨fun _ => h, fun e => Bool.noConfusion e⟩
theorem Br.ff {p q : Prop} (h : q) : Br false p q := ⟨fun e => Bool.noConfusion e, fun _ => h⟩
/-- A number that fits, or is wrapped. -/
inductive Ovf (c p q : Prop) : Prop
  | ok (h : c) (k : p)
  | wrap (k : q)
/-- One way or another one, as the proof wishes. -/
inductive Alt (p q : Prop) : Prop
  | l (h : p)
  | r (h : q)
/-- The end. -/
structure Fin (p : Prop) : Prop where
  out : p

/-- The call's own objects. -/
inductive AObj where
  | box (cs : List AV)
  | row (u : U) (xs : List (El u))
  | rowA (xs : List AV)
  | map (es : List (AV × AV))
  | dead

def AObj.live : AObj → Bool
  | .dead => false
  | _ => true

/-- An object that has a block. -/
def Claim (o : AObj) (B : Blk) : Prop := o.live = true ∧ B.sz ≠ 0

abbrev AH := List AObj
abbrev Env := List (Nat × AV)

def RowR (IM : Imm) (bs : List Blk) (w : World) (b sz cap n : Nat) (cells : Nat → List AV) : Prop :=
  ∃ cur e fz, w.heap[b]? = some (.cells cur e fz) ∧ (fz.2 ≤ fz.1 ∨ cur.size ≤ fz.1) ∧ cur.size = cap * sz ∧ n ≤ cap ∧
    ∀ i j c, i < n → (cells i)[j]? = some c → VR IM bs (cur.getD (i * sz + j) undef) c

def ObjR (IM : Imm) (bs : List Blk) (w : World) (B : Blk) : AObj → Prop
  | .box cs => B.sz = cs.length ∧ B.sz ≠ 0 ∧ RowR IM bs w B.b cs.length B.cap 1 (fun _ => cs)
  | .row u xs => (B.sz = 0 ∧ B.cap = 0 ∧ xs = []) ∨ B.sz = u.sz ∧ RowR IM bs w B.b u.sz B.cap xs.length (fun i => (enc u (xs.getD i (dflt u))).cells)
  | .rowA xs => B.sz = 1 ∧ RowR IM bs w B.b 1 B.cap xs.length (fun i => [xs.getD i .junk])
  | .map es => B.sz ≠ 0 ∧ ∃ ents c, w.heap[B.b]? = some (.map ents c) ∧ ents.size = es.length ∧
      ∀ (i : Nat) (x : AV × AV), es[i]? = some x → ∃ e : MapEntry, ents[i]? = some e ∧ VR IM bs e.key x.1 ∧ VR IM bs e.val x.2
  | .dead => True

structure WR (IM : Imm) (bs : List Blk) (w : World) (H : AH) : Prop where
  len : bs.length = H.length
  imm : ∀ b m, IM b = some m → ∃ e fz, w.heap[b]? = some (.cells m e fz)
  obj : ∀ (k : Nat) (o : AObj) (B : Blk), H[k]? = some o → bs[k]? = some B → ObjR IM bs w B o
  inj : ∀ (k k' : Nat) (o o' : AObj) (B B' : Blk), H[k]? = some o → H[k']? = some o' → Claim o B → Claim o' B' → bs[k]? = some B → bs[k']? = some B' → B.b = B'.b → k = k'
  dis : ∀ (k : Nat) (o : AObj) (B : Blk), H[k]? = some o → Claim o B → bs[k]? = some B → IM B.b = none

/-- What a stretch of a run leaves as it was. -/
structure Ext (IM : Imm) (bs : List Blk) (w : World) (H : AH) (IM' : Imm) (bs' : List Blk) (w' : World) (H' : AH) : Prop where
  os : w'.os = w.os
  tape : w'.tape = w.tape
  output : w'.output = w.output
  size : w.heap.size ≤ w'.heap.size
  imm : IM.le IM'
  pre : bs <+: bs'
  frame : ∀ b, b < w.heap.size → (∀ (k : Nat) (o : AObj) (B : Blk), H[k]? = some o → Claim o B → bs[k]? = some B → B.b ≠ b) → w'.heap[b]? = w.heap[b]?
  fresh : ∀ b m, IM' b = some m → IM b = some m ∨ w.heap.size ≤ b ∨ ∃ (k0 : Nat) (o0 : AObj) (B0 : Blk), H[k0]? = some o0 ∧ Claim o0 B0 ∧ bs[k0]? = some B0 ∧ B0.b = b
  own : ∀ (k : Nat) (o : AObj) (B : Blk), H'[k]? = some o → Claim o B → bs'[k]? = some B → w.heap.size ≤ B.b ∨ ∃ (k0 : Nat) (o0 : AObj) (B0 : Blk), H[k0]? = some o0 ∧ Claim o0 B0 ∧ bs[k0]? = some B0 ∧ B0.b = B.b

theorem Ext.refl (IM : Imm) (bs : List Blk) (w : World) (H : AH) : Ext IM bs w H IM bs w H :=
  ⟨rfl, rfl, rfl, Nat.le_refl _, Imm.le_refl _, List.prefix_refl _, fun _ _ _ => rfl, fun _ _ h => .inl h, fun k o B h1 h2 h3 => .inr ⟨k, o, B, h1, h2, h3, rfl⟩⟩

theorem Ext.trans {IM IM' IM'' : Imm} {bs bs' bs'' : List Blk} {w w' w'' : World} {H H' H'' : AH}
    (a : Ext IM bs w H IM' bs' w' H') (c : Ext IM' bs' w' H' IM'' bs'' w'' H'') : Ext IM bs w H IM'' bs'' w'' H'' := by
  refine ⟨c.os.trans a.os, c.tape.trans a.tape, c.output.trans a.output, Nat.le_trans a.size c.size, Imm.le_trans a.imm c.imm, a.pre.trans c.pre, ?_, ?_, ?_⟩
  · intro b hb hn
    rw [c.frame b (Nat.lt_of_lt_of_le hb a.size) ?_, a.frame b hb hn]
    intro k o B h1 h2 h3 e
    rcases a.own k o B h1 h2 h3 with h | ⟨k0, o0, B0, g1, g2, g3, g4⟩
    · omega
    · exact hn k0 o0 B0 g1 g2 g3 (g4.trans e)
  · intro b m hm
    rcases c.fresh b m hm with h | h | ⟨k0, o0, B0, g1, g2, g3, g4⟩
    · exact a.fresh b m h
    · exact .inr (.inl (Nat.le_trans a.size h))
    · rcases a.own k0 o0 B0 g1 g2 g3 with h | ⟨k1, o1, B1, f1, f2, f3, f4⟩
      · exact .inr (.inl (g4 ▸ h))
      · exact .inr (.inr ⟨k1, o1, B1, f1, f2, f3, f4.trans g4⟩)
  · intro k o B h1 h2 h3
    rcases c.own k o B h1 h2 h3 with h | ⟨k0, o0, B0, g1, g2, g3, g4⟩
    · exact .inl (Nat.le_trans a.size h)
    · rcases a.own k0 o0 B0 g1 g2 g3 with h | ⟨k1, o1, B1, f1, f2, f3, f4⟩
      · exact .inl (g4 ▸ h)
      · exact .inr ⟨k1, o1, B1, f1, f2, f3, f4.trans g4⟩

/-- The same, only the first objects staying where they are. -/
structure ExtM (bm : Nat) (IM : Imm) (bs : List Blk) (w : World) (H : AH) (IM' : Imm) (bs' : List Blk) (w' : World) (H' : AH) : Prop where
  os : w'.os = w.os
  tape : w'.tape = w.tape
  output : w'.output = w.output
  size : w.heap.size ≤ w'.heap.size
  imm : IM.le IM'
  pre : bs.take bm <+: bs'
  frame : ∀ b, b < w.heap.size → (∀ (k : Nat) (o : AObj) (B : Blk), H[k]? = some o → Claim o B → bs[k]? = some B → B.b ≠ b) → w'.heap[b]? = w.heap[b]?
  fresh : ∀ b m, IM' b = some m → IM b = some m ∨ w.heap.size ≤ b ∨ ∃ (k0 : Nat) (o0 : AObj) (B0 : Blk), H[k0]? = some o0 ∧ Claim o0 B0 ∧ bs[k0]? = some B0 ∧ B0.b = b
  own : ∀ (k : Nat) (o : AObj) (B : Blk), H'[k]? = some o → Claim o B → bs'[k]? = some B → w.heap.size ≤ B.b ∨ ∃ (k0 : Nat) (o0 : AObj) (B0 : Blk), H[k0]? = some o0 ∧ Claim o0 B0 ∧ bs[k0]? = some B0 ∧ B0.b = B.b

theorem Ext.toM {IM IM' : Imm} {bs bs' : List Blk} {w w' : World} {H H' : AH} (bm : Nat) (h : Ext IM bs w H IM' bs' w' H') : ExtM bm IM bs w H IM' bs' w' H' :=
  ⟨h.os, h.tape, h.output, h.size, h.imm, (List.take_prefix _ _).trans h.pre, h.frame, h.fresh, h.own⟩
theorem ExtM.refl {bm : Nat} (IM : Imm) (bs : List Blk) (w : World) (H : AH) : ExtM bm IM bs w H IM bs w H := (Ext.refl IM bs w H).toM bm
theorem ExtM.full {bm : Nat} {IM IM' : Imm} {bs bs' : List Blk} {w w' : World} {H H' : AH} (h : ExtM bm IM bs w H IM' bs' w' H') (hl : bs.length ≤ bm) : Ext IM bs w H IM' bs' w' H' :=
  ⟨h.os, h.tape, h.output, h.size, h.imm, by have := h.pre; rwa [List.take_of_length_le hl] at this, h.frame, h.fresh, h.own⟩
theorem ExtM.trans {bm : Nat} {IM IM' IM'' : Imm} {bs bs' bs'' : List Blk} {w w' w'' : World} {H H' H'' : AH}
    (a : ExtM bm IM bs w H IM' bs' w' H') (c : ExtM bm IM' bs' w' H' IM'' bs'' w'' H'') : ExtM bm IM bs w H IM'' bs'' w'' H'' := by
  refine ⟨c.os.trans a.os, c.tape.trans a.tape, c.output.trans a.output, Nat.le_trans a.size c.size, Imm.le_trans a.imm c.imm, ?_, ?_, ?_, ?_⟩
  · have h1 : bs.take bm <+: bs'.take bm := by
      obtain ⟨t, ht⟩ := a.pre
      refine ⟨t.take (bm - (bs.take bm).length), ?_⟩
      rw [← ht, List.take_append, List.take_take, Nat.min_self]
    exact h1.trans c.pre
  · intro b hb hn
    rw [c.frame b (Nat.lt_of_lt_of_le hb a.size) ?_, a.frame b hb hn]
    intro k o B h1 h2 h3 e
    rcases a.own k o B h1 h2 h3 with h | ⟨k0, o0, B0, g1, g2, g3, g4⟩
    · omega
    · exact hn k0 o0 B0 g1 g2 g3 (g4.trans e)
  · intro b m hm
    rcases c.fresh b m hm with h | h | ⟨k0, o0, B0, g1, g2, g3, g4⟩
    · exact a.fresh b m h
    · exact .inr (.inl (Nat.le_trans a.size h))
    · rcases a.own k0 o0 B0 g1 g2 g3 with h | ⟨k1, o1, B1, f1, f2, f3, f4⟩
      · exact .inr (.inl (g4 ▸ h))
      · exact .inr (.inr ⟨k1, o1, B1, f1, f2, f3, f4.trans g4⟩)
  · intro k o B h1 h2 h3
    rcases c.own k o B h1 h2 h3 with h | ⟨k0, o0, B0, g1, g2, g3, g4⟩
    · exact .inl (Nat.le_trans a.size h)
    · rcases a.own k0 o0 B0 g1 g2 g3 with h | ⟨k1, o1, B1, f1, f2, f3, f4⟩
      · exact .inl (g4 ▸ h)
      · exact .inr ⟨k1, o1, B1, f1, f2, f3, f4.trans g4⟩
theorem ExtM.transE {bm : Nat} {IM IM' IM'' : Imm} {bs bs' bs'' : List Blk} {w w' w'' : World} {H H' H'' : AH}
    (a : ExtM bm IM bs w H IM' bs' w' H') (c : Ext IM' bs' w' H' IM'' bs'' w'' H'') : ExtM bm IM bs w H IM'' bs'' w'' H'' := a.trans (c.toM bm)

end Go.Abs
end

section
set_option autoImplicit false
namespace Go.Abs
open Go

def look (t : Nat) : Env → Option AV
  | [] => none
  | (t', v) :: r => if t = t' then some v else look t r

def EnvR (IM : Imm) (bs : List Blk) (tmps : Array Value) (env : Env) : Prop :=
  ∀ t a, look t env = some a → VR IM bs (tmps.getD t undef) a

abbrev APost := Exit → Env → AH → Prop

def AWP (P : Program) (n bm : Nat) (c : Code) (Q : APost) (env : Env) (H : AH) : Prop :=
  ∀ IM bs w (a : Act), a.tmps.size = n → a.defers = [] → WR IM bs w H → EnvR IM bs a.tmps env →
    c.wp P (fun e a' w' => ∃ env' H' IM' bs', Q e env' H' ∧ a'.tmps.size = n ∧ a'.defers = [] ∧ WR IM' bs' w' H' ∧
      EnvR IM' bs' a'.tmps env' ∧ ExtM bm IM bs w H IM' bs' w' H') a w

def thenA (K : Env → AH → Prop) (Q : APost) : APost
  | .normal, env, H => K env H
  | e, env, H => Q e env H

def inBlockA (id : Nat) (Q : APost) : APost
  | .exit id', env, H => if id' = id then Q .normal env H else Q (.exit id') env H
  | e, env, H => Q e env H

theorem AWP.mono {P : Program} {n bm : Nat} {c : Code} {Q Q' : APost} {env : Env} {H : AH} (h : AWP P n bm c Q env H) (hq : ∀ e env H, Q e env H → Q' e env H) :
    AWP P n bm c Q' env H := fun IM bs w a h1 h2 h3 h4 => wp_mono (h IM bs w a h1 h2 h3 h4) fun _ _ _ ⟨env', H', IM', bs', q, r⟩ => ⟨env', H', IM', bs', hq _ _ _ q, r⟩

theorem AWP.skip {P : Program} {n bm : Nat} {Q : APost} {env : Env} {H : AH} (h : Q .normal env H) : AWP P n bm .skip Q env H :=
  fun IM bs _ _ h1 h2 h3 h4 => wp_skip ⟨env, H, IM, bs, h, h1, h2, h3, h4, ExtM.refl _ _ _ _⟩
theorem AWP.ret {P : Program} {n bm : Nat} {Q : APost} {env : Env} {H : AH} (h : Q .ret env H) : AWP P n bm .ret Q env H :=
  fun IM bs _ _ h1 h2 h3 h4 => wp_ret ⟨env, H, IM, bs, h, h1, h2, h3, h4, ExtM.refl _ _ _ _⟩
theorem AWP.exit {P : Program} {n bm : Nat} {id : Nat} {Q : APost} {env : Env} {H : AH} (h : Q (.exit id) env H) : AWP P n bm (.exit id) Q env H :=
  fun IM bs _ _ h1 h2 h3 h4 => wp_exit ⟨env, H, IM, bs, h, h1, h2, h3, h4, ExtM.refl _ _ _ _⟩
theorem AWP.seq {P : Program} {n bm : Nat} {x y : Code} {Q : APost} {env : Env} {H : AH} (h : AWP P n bm x (thenA (AWP P n bm y Q) Q) env H) : AWP P n bm (.seq x y) Q env H := by
  intro IM bs w a h1 h2 h3 h4
  refine wp_seq (wp_mono (h IM bs w a h1 h2 h3 h4) ?_)
  rintro e a' w' ⟨env', H', IM', bs', q, g1, g2, g3, g4, g5⟩
  cases e with
  | normal =>
    refine wp_mono (q IM' bs' w' a' g1 g2 g3 g4) ?_
    rintro e a2 w2 ⟨env2, H2, IM2, bs2, q2, f1, f2, f3, f4, f5⟩
    exact ⟨env2, H2, IM2, bs2, q2, f1, f2, f3, f4, g5.trans f5⟩
  | _ => exact ⟨env', H', IM', bs', q, g1, g2, g3, g4, g5⟩
theorem AWP.block {P : Program} {n bm : Nat} {id : Nat} {c : Code} {Q : APost} {env : Env} {H : AH} (h : AWP P n bm c (inBlockA id Q) env H) : AWP P n bm (.block id c) Q env H := by
  intro IM bs w a h1 h2 h3 h4
  refine wp_block (wp_mono (h IM bs w a h1 h2 h3 h4) ?_)
  rintro e a' w' ⟨env', H', IM', bs', q, g⟩
  cases e with
  | exit id' =>
    by_cases hid : id' = id
    · simp only [Exit.inBlock, inBlockA, if_pos hid] at q ⊢
      exact ⟨env', H', IM', bs', q, g⟩
    · simp only [Exit.inBlock, inBlockA, if_neg hid] at q ⊢
      exact ⟨env', H', IM', bs', q, g⟩
  | _ => exact ⟨env', H', IM', bs', q, g⟩
theorem AWP.cond {P : Program} {n bm : Nat} {t : Nat} {x y : Code} {Q : APost} {env : Env} {H : AH} {b : Bool} (hc : look t env = some (.bool b))
    (hx : b = true → AWP P n bm x Q env H) (hy : b = false → AWP P n bm y Q env H) : AWP P n bm (.cond (.tmp t) x y) Q env H := by
  intro IM bs w a h1 h2 h3 h4
  have hv := h4 t _ hc
  have he : a.eval (.tmp t) = .bool b := by
    show a.tmps.getD t undef = _
    generalize a.tmps.getD t undef = v at hv
    cases hv; rfl
  cases b with
  | true => exact wp_cond_true he (hx rfl IM bs w a h1 h2 h3 h4)
  | false => exact wp_cond_false he (hy rfl IM bs w a h1 h2 h3 h4)

/-- env' tells at least what env tells. -/
def Env.le (env env' : Env) : Prop := ∀ t a, look t env = some a → look t env' = some a

theorem EnvR.weaken {IM : Imm} {bs : List Blk} {tmps : Array Value} {env env' : Env} (h : EnvR IM bs tmps env') (hl : Env.le env env') : EnvR IM bs tmps env :=
  fun t a ht => h t a (hl t a ht)

theorem AWP.weaken {P : Program} {n bm : Nat} {c : Code} {Q : APost} {env env' : Env} {H : AH} (h : AWP P n bm c Q env H) (hl : Env.le env env') : AWP P n bm c Q env' H :=
  fun IM bs w a h1 h2 h3 h4 => h IM bs w a h1 h2 h3 (h4.weaken hl)

mutual
/-- Whether a value speaks of objects below m alone. -/
def AV.und (m : Nat) : AV → Bool
  | .ptr k _ _ => Nat.blt k m
  | .ref k _ _ => Nat.blt k m
  | .mp k => Nat.blt k m
  | .fn _ caps => undL m caps
  | .agg cs => undL m cs
  | .tup cs => undL m cs
  | _ => true
def undL (m : Nat) : List AV → Bool
  | [] => true
  | c :: r => c.und m && undL m r
end

theorem undL_mem {m : Nat} {l : List AV} (h : undL m l = true) : ∀ c ∈ l, c.und m = true := by
  induction l with
  | nil => intro c hc; cases hc
  | cons a r ih =>
    rw [undL, Bool.and_eq_true] at h
    intro c hc
    cases hc with
    | head => exact h.1
    | tail _ hc => exact ih h.2 c hc

theorem enc_und (m : Nat) (u : U) (x : El u) : ∀ c ∈ (enc u x).cells, c.und m = true := by
  cases u <;> simp [enc, AV.cells, AV.und]

theorem VR.take {IM : Imm} {bs : List Blk} {v : Value} {a : AV} (h : VR IM bs v a) : ∀ (m : Nat), a.und m = true → VR IM (bs.take m) v a := by
  have ht : ∀ (m k : Nat) (B : Blk), k < m → bs[k]? = some B → (bs.take m)[k]? = some B := fun m k B hk hB => by
    rw [List.getElem?_take, if_pos hk]; exact hB
  induction h with
  | int => intros; constructor
  | bool => intros; constructor
  | str => intros; constructor
  | nilp => intros; constructor
  | ptr k i f B hB => intro m hm; exact .ptr k i f B (ht m k B (by simpa [AV.und, Nat.blt_eq] using hm) hB)
  | iptr u xs i f b o m hm hb' hi hv ih =>
    intro M _
    exact .iptr u xs i f b o m hm hb' hi fun i x j c h1 h2 => ih i x j c h1 h2 M (enc_und M u x c (List.mem_of_getElem? h2))
  | nilsl => intros; constructor
  | isl0 => intros; constructor
  | isl u xs b o c hle m hm hb' hv ih =>
    intro M _
    exact .isl u xs b o c hle m hm hb' fun i x j c h1 h2 => ih i x j c h1 h2 M (enc_und M u x c (List.mem_of_getElem? h2))
  | fsl0 => intros; constructor
  | fsl u xs b o m hm hb' hv ih =>
    intro M _
    exact .fsl u xs b o m hm hb' fun i x j c h1 h2 => ih i x j c h1 h2 M (enc_und M u x c (List.mem_of_getElem? h2))
  | ref0 k off B hB hc a => intro m hm; exact .ref0 k off B (ht m k B (by simpa [AV.und, Nat.blt_eq] using hm) hB) hc a
  | ref k off len B hB hz h => intro m hm; exact .ref k off len B (ht m k B (by simpa [AV.und, Nat.blt_eq] using hm) hB) hz h
  | mp k B hB => intro m hm; exact .mp k B (ht m k B (by simpa [AV.und, Nat.blt_eq] using hm) hB)
  | nilmap => intros; constructor
  | fn f caps cs hs hv ih =>
    intro M hM
    rw [AV.und] at hM
    exact .fn f caps cs hs fun j c hc => ih j c hc M (undL_mem hM c (List.mem_of_getElem? hc))
  | nilfn => intros; constructor
  | nili => intros; constructor
  | nni => intros; constructor
  | agg cs vs hs hv ih =>
    intro M hM
    rw [AV.und] at hM
    exact .agg cs vs hs fun j c hc => ih j c hc M (undL_mem hM c (List.mem_of_getElem? hc))
  | tup cs vs hs hv ih =>
    intro M hM
    rw [AV.und] at hM
    exact .tup cs vs hs fun j c hc => ih j c hc M (undL_mem hM c (List.mem_of_getElem? hc))
  | junk => intros; constructor

def AObj.und (m : Nat) : AObj → Bool
  | .box cs => undL m cs
  | .rowA cs => undL m cs
  | .map es => es.all fun e => e.1.und m && e.2.und m
  | _ => true

theorem RowR.imp {IM IM' : Imm} {bs bs' : List Blk} {w w' : World} {b sz cap n : Nat} {f : Nat → List AV} (h : RowR IM bs w b sz cap n f)
    (hw : w'.heap[b]? = w.heap[b]?) (hv : ∀ (i j : Nat) (c : AV) (v : Value), i < n → (f i)[j]? = some c → VR IM bs v c → VR IM' bs' v c) : RowR IM' bs' w' b sz cap n f := by
  obtain ⟨cur, e, fz, h1, h0, h2, h3, h4⟩ := h
  exact ⟨cur, e, fz, hw.trans h1, h0, h2, h3, fun i j c hi hc => hv i j c _ hi hc (h4 i j c hi hc)⟩

theorem ObjR.mono {IM IM' : Imm} {bs bs' : List Blk} {w w' : World} {B : Blk} {o : AObj} (h : ObjR IM bs w B o) (hw : Claim o B → w'.heap[B.b]? = w.heap[B.b]?)
    (hI : IM.le IM') (hb : bs <+: bs') : ObjR IM' bs' w' B o := by
  cases o with
  | box cs => exact ⟨h.1, h.2.1, RowR.imp h.2.2 (hw ⟨rfl, h.2.1⟩) fun _ _ _ _ _ _ h => h.mono hI hb⟩
  | row u xs =>
    rcases h with h | h
    · exact .inl h
    · exact .inr ⟨h.1, RowR.imp h.2 (hw ⟨rfl, by rw [h.1]; exact Nat.ne_of_gt u.sz_pos⟩) fun _ _ _ _ _ _ h => h.mono hI hb⟩
  | rowA xs => exact ⟨h.1, RowR.imp h.2 (hw ⟨rfl, by rw [h.1]; decide⟩) fun _ _ _ _ _ _ h => h.mono hI hb⟩
  | map es =>
    obtain ⟨h0, ents, c, h1, h2, h3⟩ := h
    exact ⟨h0, ents, c, (hw ⟨rfl, h0⟩).trans h1, h2, fun i x hx => let ⟨e, g1, g2, g3⟩ := h3 i x hx; ⟨e, g1, g2.mono hI hb, g3.mono hI hb⟩⟩
  | dead => trivial

theorem ObjR.take {IM : Imm} {bs : List Blk} {w : World} {B : Blk} {o : AObj} (m : Nat) (h : ObjR IM bs w B o) (hm : o.und m = true) : ObjR IM (bs.take m) w B o := by
  cases o with
  | box cs => exact ⟨h.1, h.2.1, RowR.imp h.2.2 rfl fun _ _ c _ _ hc h => h.take m (undL_mem hm c (List.mem_of_getElem? hc))⟩
  | row u xs =>
    rcases h with h | h
    · exact .inl h
    · exact .inr ⟨h.1, RowR.imp h.2 rfl fun _ _ c _ _ hc h => h.take m (enc_und m u _ c (List.mem_of_getElem? hc))⟩
  | rowA xs =>
    refine ⟨h.1, RowR.imp h.2 rfl fun i j c _ hi hc h => h.take m ?_⟩
    cases j with
    | succ j => simp at hc
    | zero =>
      simp at hc
      subst hc
      rw [List.getElem?_eq_getElem hi]
      exact undL_mem hm _ (List.getElem_mem hi)
  | map es =>
    obtain ⟨h0, ents, c, h1, h2, h3⟩ := h
    simp only [AObj.und, List.all_eq_true, Bool.and_eq_true] at hm
    exact ⟨h0, ents, c, h1, h2, fun i x hx => let ⟨e, g1, g2, g3⟩ := h3 i x hx; ⟨e, g1, g2.take m (hm x (List.mem_of_getElem? hx)).1, g3.take m (hm x (List.mem_of_getElem? hx)).2⟩⟩
  | dead => trivial

/-- Objects from m on are forgotten. -/
theorem WR.take {IM : Imm} {bs : List Blk} {w : World} {H : AH} (m : Nat) (h : WR IM bs w H) (hm : ∀ o ∈ H.take m, o.und m = true) : WR IM (bs.take m) w (H.take m) := by
  have get : ∀ (k : Nat) (o : AObj), (H.take m)[k]? = some o → H[k]? = some o := fun k o hk => by
    rw [List.getElem?_take] at hk
    split at hk
    · exact hk
    · cases hk
  have getB : ∀ (k : Nat) (B : Blk), (bs.take m)[k]? = some B → bs[k]? = some B := fun k B hk => by
    rw [List.getElem?_take] at hk
    split at hk
    · exact hk
    · cases hk
  refine ⟨by rw [List.length_take, List.length_take, h.len], h.imm, ?_, ?_, ?_⟩
  · intro k o B ho hB
    exact (h.obj k o B (get k o ho) (getB k B hB)).take m (hm o (List.mem_of_getElem? ho))
  · intro k k' o o' B B' ho ho' l l' hB hB' e
    exact h.inj k k' o o' B B' (get _ _ ho) (get _ _ ho') l l' (getB _ _ hB) (getB _ _ hB') e
  · intro k o B ho l hB
    exact h.dis k o B (get _ _ ho) l (getB _ _ hB)

theorem Ext.take {IM IM' : Imm} {bs bs' : List Blk} {w w' : World} {H H' : AH} (h : Ext IM bs w H IM' bs' w' H') (hl : bs.length = H.length) (m : Nat) (hm : H.length ≤ m) :
    Ext IM bs w H IM' (bs'.take m) w' (H'.take m) := by
  refine ⟨h.os, h.tape, h.output, h.size, h.imm, ?_, h.frame, h.fresh, ?_⟩
  · obtain ⟨t, rfl⟩ := h.pre
    refine ⟨t.take (m - bs.length), ?_⟩
    rw [List.take_append, List.take_of_length_le (l := bs) (by omega)]
  · intro k o B ho l hB
    rw [List.getElem?_take] at ho hB
    split at ho
    · rename_i hk
      rw [if_pos hk] at hB
      exact h.own k o B ho l hB
    · cases ho

theorem ExtM.take {bm : Nat} {IM IM' : Imm} {bs bs' : List Blk} {w w' : World} {H H' : AH} (h : ExtM bm IM bs w H IM' bs' w' H') (hl : bs.length = H.length) (m : Nat) (hm : H.length ≤ m) :
    ExtM bm IM bs w H IM' (bs'.take m) w' (H'.take m) := by
  refine ⟨h.os, h.tape, h.output, h.size, h.imm, ?_, h.frame, h.fresh, ?_⟩
  · obtain ⟨t, ht⟩ := h.pre
    refine ⟨t.take (m - (bs.take bm).length), ?_⟩
    rw [← ht, List.take_append, List.take_of_length_le (l := bs.take bm) (by rw [List.length_take]; omega)]
  · intro k o B ho l hB
    rw [List.getElem?_take] at ho hB
    split at ho
    · rename_i hk
      rw [if_pos hk] at hB
      exact h.own k o B ho l hB
    · cases ho

end Go.Abs
end

section
set_option autoImplicit false
set_option linter.unusedVariables false
namespace Go.Abs
open Go

/-- Heaps may differ; nothing else does. -/
structure Same (w w' : World) : Prop where
  os : w'.os = w.os
  tape : w'.tape = w.tape
  output : w'.output = w.output
  size : w.heap.size ≤ w'.heap.size

theorem Same.refl (w : World) : Same w w := ⟨rfl, rfl, rfl, Nat.le_refl _⟩
theorem Same.trans {a b c : World} (h : Same a b) (k : Same b c) : Same a c := ⟨k.os.trans h.os, k.tape.trans h.tape, k.output.trans h.output, Nat.le_trans h.size k.size⟩

theorem lt_of_get {α : Type} {a : Array α} {i : Nat} {x : α} (h : a[i]? = some x) : i < a.size := by
  rcases Nat.lt_or_ge i a.size with h' | h'
  · exact h'
  · rw [Array.getElem?_eq_none h'] at h; cases h
theorem lt_of_getL {α : Type} {a : List α} {i : Nat} {x : α} (h : a[i]? = some x) : i < a.length := by
  rcases Nat.lt_or_ge i a.length with h' | h'
  · exact h'
  · rw [List.getElem?_eq_none h'] at h; cases h

theorem ObjR.there {IM : Imm} {bs : List Blk} {w : World} {B : Blk} {o : AObj} (h : ObjR IM bs w B o) (hl : Claim o B) : B.b < w.heap.size := by
  cases o with
  | box cs => obtain ⟨_, _, cur, e, fz, h, _⟩ := h; exact lt_of_get h
  | row u xs =>
    rcases h with h | h
    · exact (hl.2 h.1).elim
    · obtain ⟨_, cur, e, fz, h, _⟩ := h; exact lt_of_get h
  | rowA xs => obtain ⟨_, cur, e, fz, h, _⟩ := h; exact lt_of_get h
  | map es => obtain ⟨_, ents, c, h, _⟩ := h; exact lt_of_get h
  | dead => cases hl.1

theorem ObjR.heapL {IM : Imm} {bs : List Blk} {w w' : World} {B : Blk} {o : AObj} (h : ObjR IM bs w B o) (hw : Claim o B → w'.heap[B.b]? = w.heap[B.b]?) : ObjR IM bs w' B o :=
  h.mono hw (Imm.le_refl _) (List.prefix_refl _)

/-- One object is another one now. -/
theorem WR.update {IM : Imm} {bs : List Blk} {w w' : World} {H : AH} (h : WR IM bs w H) {k : Nat} {o o' : AObj} {B : Blk} (hk : H[k]? = some o) (hl : Claim o B) (hB : bs[k]? = some B)
    (hs : Same w w') (hb : ∀ b, b < w.heap.size → b ≠ B.b → w'.heap[b]? = w.heap[b]?) (ho : ObjR IM bs w' B o') :
    WR IM bs w' (H.set k o') ∧ Ext IM bs w H IM bs w' (H.set k o') := by
  have hkl := lt_of_getL hk
  refine ⟨⟨by rw [List.length_set]; exact h.len, ?_, ?_, ?_, ?_⟩, ⟨hs.os, hs.tape, hs.output, hs.size, Imm.le_refl _, List.prefix_refl _, ?_, fun _ _ h => .inl h, ?_⟩⟩
  · intro b m hm
    obtain ⟨e, fz, he⟩ := h.imm b m hm
    have hne : b ≠ B.b := fun e => by rw [e, h.dis k o B hk hl hB] at hm; cases hm
    exact ⟨e, fz, (hb b (lt_of_get he) hne).trans he⟩
  · intro j oj Bj hj hBj
    rw [List.getElem?_set] at hj
    split at hj
    · rename_i hjk
      subst hjk
      (try rw [if_pos hkl] at hj)
      cases hj
      rw [hB] at hBj
      cases hBj
      exact ho
    · rename_i hjk
      refine (h.obj j oj Bj hj hBj).heapL fun hlj => ?_
      exact hb _ ((h.obj j oj Bj hj hBj).there hlj) fun e => hjk (h.inj k j o oj B Bj hk hj hl hlj hB hBj e.symm)
  · intro j j' oj oj' Bj Bj' hj hj' l l' hBj hBj' e
    have get : ∀ (i : Nat) (oi : AObj) (Bi : Blk), (H.set k o')[i]? = some oi → bs[i]? = some Bi → Claim oi Bi → ∃ x, H[i]? = some x ∧ Claim x Bi := by
      intro i oi Bi hi hBi hli
      rw [List.getElem?_set] at hi
      split at hi
      · rename_i e; subst e; rw [hB] at hBi; cases hBi; exact ⟨o, hk, hl⟩
      · exact ⟨oi, hi, hli⟩
    obtain ⟨x, hx, lx⟩ := get j oj Bj hj hBj l
    obtain ⟨y, hy, ly⟩ := get j' oj' Bj' hj' hBj' l'
    exact h.inj j j' x y Bj Bj' hx hy lx ly hBj hBj' e
  · intro j oj Bj hj l hBj
    rw [List.getElem?_set] at hj
    split at hj
    · rename_i e; subst e; rw [hB] at hBj; cases hBj; exact h.dis k o B hk hl hB
    · exact h.dis j oj Bj hj l hBj
  · intro b hlt hn
    exact hb b hlt fun e => hn k o B hk hl hB e.symm
  · intro j oj Bj hj l hBj
    rw [List.getElem?_set] at hj
    split at hj
    · rename_i e; subst e; rw [hB] at hBj; cases hBj; exact .inr ⟨k, o, B, hk, hl, hB, rfl⟩
    · exact .inr ⟨j, oj, Bj, hj, l, hBj, rfl⟩

/-- A new object. -/
theorem WR.add {IM : Imm} {bs : List Blk} {w w' : World} {H : AH} (h : WR IM bs w H) {o' : AObj} {B : Blk}
    (hs : Same w w') (hb : ∀ b, b < w.heap.size → w'.heap[b]? = w.heap[b]?) (hB : B.sz ≠ 0 → w.heap.size ≤ B.b) (ho : ObjR IM (bs ++ [B]) w' B o') :
    WR IM (bs ++ [B]) w' (H ++ [o']) ∧ Ext IM bs w H IM (bs ++ [B]) w' (H ++ [o']) := by
  have hlen := h.len
  have get : ∀ (i : Nat) (oi : AObj) (Bi : Blk), (H ++ [o'])[i]? = some oi → (bs ++ [B])[i]? = some Bi → (H[i]? = some oi ∧ bs[i]? = some Bi) ∨ (i = H.length ∧ oi = o' ∧ Bi = B) := by
    intro i oi Bi hi hBi
    rcases Nat.lt_or_ge i H.length with hlt | hge
    · rw [List.getElem?_append_left hlt] at hi
      rw [List.getElem?_append_left (by omega)] at hBi
      exact .inl ⟨hi, hBi⟩
    · have := lt_of_getL hi
      simp at this
      have e : i = H.length := by omega
      subst e
      simp at hi
      rw [← hlen] at hBi
      simp at hBi
      exact .inr ⟨rfl, hi.symm, hBi.symm⟩
  refine ⟨⟨by simp [hlen], ?_, ?_, ?_, ?_⟩, ⟨hs.os, hs.tape, hs.output, hs.size, Imm.le_refl _, List.prefix_append _ _, fun b hlt _ => hb b hlt, fun _ _ h => .inl h, ?_⟩⟩
  · intro b m hm
    obtain ⟨e, fz, he⟩ := h.imm b m hm
    exact ⟨e, fz, (hb b (lt_of_get he)).trans he⟩
  · intro j oj Bj hj hBj
    rcases get j oj Bj hj hBj with ⟨h1, h2⟩ | ⟨_, rfl, rfl⟩
    · have h3 := (h.obj j oj Bj h1 h2).heapL (w' := w') fun hl => hb _ ((h.obj j oj Bj h1 h2).there hl)
      exact h3.mono (fun _ => rfl) (Imm.le_refl _) (List.prefix_append _ _)
    · exact ho
  · intro j j' oj oj' Bj Bj' hj hj' l l' hBj hBj' e
    rcases get j oj Bj hj hBj with ⟨h1, h2⟩ | ⟨e1, rfl, rfl⟩ <;> rcases get j' oj' Bj' hj' hBj' with ⟨g1, g2⟩ | ⟨e2, rfl, rfl⟩
    · exact h.inj j j' oj oj' Bj Bj' h1 g1 l l' h2 g2 e
    · have := (h.obj j oj Bj h1 h2).there l; have := hB l'.2; omega
    · have := (h.obj j' oj' Bj' g1 g2).there l'; have := hB l.2; omega
    · omega
  · intro j oj Bj hj l hBj
    rcases get j oj Bj hj hBj with ⟨h1, h2⟩ | ⟨_, rfl, rfl⟩
    · exact h.dis j oj Bj h1 l h2
    · cases hI : IM Bj.b with
      | none => rfl
      | some m => obtain ⟨e, fz, he⟩ := h.imm _ _ hI; have := lt_of_get he; have := hB l.2; omega
  · intro j oj Bj hj l hBj
    rcases get j oj Bj hj hBj with ⟨h1, h2⟩ | ⟨_, rfl, rfl⟩
    · exact .inr ⟨j, oj, Bj, h1, l, h2, rfl⟩
    · exact .inl (hB l.2)

/-- An object is none any more. -/
theorem WR.kill {IM : Imm} {bs : List Blk} {w : World} {H : AH} (h : WR IM bs w H) (k : Nat) : WR IM bs w (H.set k .dead) := by
  have get : ∀ (i : Nat) (oi : AObj), (H.set k .dead)[i]? = some oi → oi.live = true → H[i]? = some oi := by
    intro i oi hi hl
    rw [List.getElem?_set] at hi
    split at hi
    · split at hi
      · cases hi; cases hl
      · cases hi
    · exact hi
  refine ⟨by rw [List.length_set]; exact h.len, h.imm, ?_, ?_, ?_⟩
  · intro j oj Bj hj hBj
    cases hl : oj.live with
    | true => exact h.obj j oj Bj (get j oj hj hl) hBj
    | false => cases oj <;> first | trivial | cases hl
  · intro j j' oj oj' Bj Bj' hj hj' l l' hBj hBj' e
    exact h.inj j j' oj oj' Bj Bj' (get _ _ hj l.1) (get _ _ hj' l'.1) l l' hBj hBj' e
  · intro j oj Bj hj l hBj
    exact h.dis j oj Bj (get _ _ hj l.1) l hBj

/-- An object has moved: its old number is dead, it has a new one; its block may be the old one. -/
theorem WR.move {IM : Imm} {bs : List Blk} {w w' : World} {H : AH} (h : WR IM bs w H) {k : Nat} {o o' : AObj} {B B' : Blk} (hk : H[k]? = some o) (hB : bs[k]? = some B)
    (hs : Same w w') (hb : ∀ b, b < w.heap.size → (Claim o B → b ≠ B.b) → w'.heap[b]? = w.heap[b]?) (hB' : B'.sz ≠ 0 → (Claim o B ∧ B'.b = B.b) ∨ w.heap.size ≤ B'.b) (ho : ObjR IM (bs ++ [B']) w' B' o') :
    WR IM (bs ++ [B']) w' (H.set k .dead ++ [o']) ∧ Ext IM bs w H IM (bs ++ [B']) w' (H.set k .dead ++ [o']) := by
  have hkl := lt_of_getL hk
  have hlen := h.len
  have get : ∀ (i : Nat) (oi : AObj) (Bi : Blk), (H.set k .dead ++ [o'])[i]? = some oi → (bs ++ [B'])[i]? = some Bi → oi.live = true →
      (i ≠ k ∧ H[i]? = some oi ∧ bs[i]? = some Bi) ∨ (i = H.length ∧ oi = o' ∧ Bi = B') := by
    intro i oi Bi hi hBi hli
    rcases Nat.lt_or_ge i H.length with hlt | hge
    · rw [List.getElem?_append_left (by simpa using hlt)] at hi
      rw [List.getElem?_append_left (by omega)] at hBi
      rw [List.getElem?_set] at hi
      split at hi
      · rename_i e; subst e; (try rw [if_pos hkl] at hi); cases hi; cases hli
      · rename_i e; exact .inl ⟨fun e' => e e'.symm, hi, hBi⟩
    · have := lt_of_getL hi
      simp at this
      have e : i = H.length := by omega
      subst e
      rw [List.getElem?_append_right (by simp)] at hi
      simp at hi
      rw [← hlen] at hBi
      simp at hBi
      exact .inr ⟨rfl, hi.symm, hBi.symm⟩
  refine ⟨⟨by simp [hlen], ?_, ?_, ?_, ?_⟩, ⟨hs.os, hs.tape, hs.output, hs.size, Imm.le_refl _, List.prefix_append _ _, ?_, fun _ _ h => .inl h, ?_⟩⟩
  · intro b m hm
    obtain ⟨e, fz, he⟩ := h.imm b m hm
    refine ⟨e, fz, (hb b (lt_of_get he) fun hc e => ?_).trans he⟩
    rw [e, h.dis k o B hk hc hB] at hm; cases hm
  · intro j oj Bj hj hBj
    cases hlj : oj.live with
    | false => cases oj <;> first | trivial | cases hlj
    | true =>
      rcases get j oj Bj hj hBj hlj with ⟨hjk, h1, h2⟩ | ⟨_, rfl, rfl⟩
      · have h3 := (h.obj j oj Bj h1 h2).heapL (w' := w') fun hc => (hb _ ((h.obj j oj Bj h1 h2).there hc) fun hc' e => hjk (h.inj j k oj o Bj B h1 hk hc hc' h2 hB e))
        exact h3.mono (fun _ => rfl) (Imm.le_refl _) (List.prefix_append _ _)
      · exact ho
  · intro j j' oj oj' Bj Bj' hj hj' l l' hBj hBj' e
    have far : ∀ (i : Nat) (oi : AObj) (Bi : Blk), i ≠ k → H[i]? = some oi → bs[i]? = some Bi → Claim oi Bi → B'.sz ≠ 0 → Bi.b ≠ B'.b := by
      intro i oi Bi hik h1 h2 hli hz e
      rcases hB' hz with ⟨hc, e'⟩ | hge
      · exact hik (h.inj i k oi o Bi B h1 hk hli hc h2 hB (e.trans e'))
      · have := (h.obj i oi Bi h1 h2).there hli; omega
    rcases get j oj Bj hj hBj l.1 with ⟨hjk, h1, h2⟩ | ⟨e1, rfl, rfl⟩ <;> rcases get j' oj' Bj' hj' hBj' l'.1 with ⟨hjk', g1, g2⟩ | ⟨e2, rfl, rfl⟩
    · exact h.inj j j' oj oj' Bj Bj' h1 g1 l l' h2 g2 e
    · exact (far j oj Bj hjk h1 h2 l l'.2 e).elim
    · exact (far j' oj' Bj' hjk' g1 g2 l' l.2 e.symm).elim
    · omega
  · intro j oj Bj hj l hBj
    rcases get j oj Bj hj hBj l.1 with ⟨hjk, h1, h2⟩ | ⟨_, rfl, rfl⟩
    · exact h.dis j oj Bj h1 l h2
    · rcases hB' l.2 with ⟨hc, e'⟩ | hge
      · rw [e']; exact h.dis k o B hk hc hB
      · cases hI : IM Bj.b with
        | none => rfl
        | some m => obtain ⟨e, fz, he⟩ := h.imm _ _ hI; have := lt_of_get he; omega
  · intro b hlt hn
    exact hb b hlt fun hc e => hn k o B hk hc hB e.symm
  · intro j oj Bj hj l hBj
    rcases get j oj Bj hj hBj l.1 with ⟨hjk, h1, h2⟩ | ⟨_, rfl, rfl⟩
    · exact .inr ⟨j, oj, Bj, h1, l, h2, rfl⟩
    · rcases hB' l.2 with ⟨hc, e'⟩ | hge
      · exact .inr ⟨k, o, B, hk, hc, hB, e'.symm⟩
      · exact .inl hge

/-- A row that will not be written any more. -/
theorem WR.freeze' {IM : Imm} {bs : List Blk} {w : World} {H : AH} (h : WR IM bs w H) {k : Nat} {u : U} {xs : List (El u)} (hk : H[k]? = some (.row u xs)) :
    ∃ IM', WR IM' bs w (H.set k .dead) ∧ Ext IM bs w H IM' bs w (H.set k .dead) ∧ ∀ off n v, off + n ≤ xs.length → VR IM bs v (.ref k off n) → VR IM' bs v (.isl u ((xs.drop off).take n)) := by
  have hkl := lt_of_getL hk
  have hB : ∃ B, bs[k]? = some B := ⟨bs[k]'(by have := h.len; omega), List.getElem?_eq_getElem _⟩
  obtain ⟨B, hB⟩ := hB
  have getk : ∀ (j : Nat) (o : AObj), (H.set k .dead)[j]? = some o → o.live = true → H[j]? = some o ∧ j ≠ k := by
    intro j o hj hl
    rw [List.getElem?_set] at hj
    split at hj
    · rename_i e; subst e; (try rw [if_pos hkl] at hj); cases hj; cases hl
    · rename_i e; exact ⟨hj, fun e' => e e'.symm⟩
  rcases h.obj k _ B hk hB with ⟨hz, hc0, hxs⟩ | ⟨hsz, cur, e, fz, hheap, hfz, hcur, hcap, hv⟩
  · refine ⟨IM, h.kill k, ⟨rfl, rfl, rfl, Nat.le_refl _, Imm.le_refl _, List.prefix_refl _, fun _ _ _ => rfl, fun _ _ h => .inl h, fun j o Bj hj hl hBj => .inr ⟨j, o, Bj, (getk j o hj hl.1).1, hl, hBj, rfl⟩⟩, ?_⟩
    intro off n v hn hvr
    subst hxs
    simp at hn
    obtain ⟨rfl, rfl⟩ := hn
    cases hvr with
    | ref0 => exact .isl0 u _ _
    | ref => exact .isl0 u _ _
  have hcl : Claim (.row u xs) B := ⟨rfl, by rw [hsz]; exact Nat.ne_of_gt u.sz_pos⟩
  have hnone := h.dis k _ B hk hcl hB
  have hle : IM.le fun b => if b = B.b then some cur else IM b := by
    intro b m hm
    show (if b = B.b then some cur else IM b) = some m
    rw [if_neg (fun e => by rw [e, hnone] at hm; cases hm)]; exact hm
  refine ⟨fun b => if b = B.b then some cur else IM b, ?_, ?_, ?_⟩
  · have hd := h.kill k
    refine ⟨hd.len, ?_, fun j o Bj hj hBj => (hd.obj j o Bj hj hBj).mono (fun _ => rfl) hle (List.prefix_refl _), hd.inj, ?_⟩
    · intro b m hm
      replace hm : (if b = B.b then some cur else IM b) = some m := hm
      split at hm
      · rename_i e; subst e; cases hm; exact ⟨_, _, hheap⟩
      · exact h.imm b m hm
    · intro j o Bj hj hl hBj
      have hj' := getk j o hj hl.1
      show (if Bj.b = B.b then some cur else IM Bj.b) = none
      rw [if_neg fun e => hj'.2 (h.inj j k o _ Bj B hj'.1 hk hl hcl hBj hB e)]
      exact h.dis j o Bj hj'.1 hl hBj
  · refine ⟨rfl, rfl, rfl, Nat.le_refl _, hle, List.prefix_refl _, fun _ _ _ => rfl, ?_, ?_⟩
    · intro b m hm
      replace hm : (if b = B.b then some cur else IM b) = some m := hm
      split at hm
      · rename_i e; exact .inr (.inr ⟨k, _, B, hk, hcl, hB, e.symm⟩)
      · exact .inl hm
    · intro j o Bj hj hl hBj
      exact .inr ⟨j, o, Bj, (getk j o hj hl.1).1, hl, hBj, rfl⟩
  · intro off n v hn hvr
    cases hvr with
    | ref0 => rw [List.take_zero]; exact .isl0 u _ _
    | ref _ _ _ B' hB' hz' hle' =>
      rw [hB] at hB'
      cases hB'
      have hl : ((xs.drop off).take n).length = n := by rw [List.length_take, List.length_drop]; omega
      have := VR.isl (IM := fun b => if b = B.b then some cur else IM b) (bs := bs) u ((xs.drop off).take n) B.b (off * B.sz) (B.cap - off) (by rw [hl]; omega) cur (by show (if B.b = B.b then some cur else IM B.b) = _; rw [if_pos rfl])
        (by rw [hl, hcur, hsz, ← Nat.add_mul]; exact Nat.mul_le_mul_right _ (by omega)) (fun i x j c hx hc => by
          have hx' : xs[off + i]? = some x := by
            rw [List.getElem?_take] at hx
            split at hx
            · rwa [List.getElem?_drop] at hx
            · cases hx
          have := hv (off + i) j c (lt_of_getL hx') (by show (enc u (xs.getD (off + i) (dflt u))).cells[j]? = some c; rw [List.getD_eq_getElem?_getD, hx']; exact hc)
          rw [hsz, ← Nat.add_mul]
          exact this.mono hle (List.prefix_refl _))
      rw [hl] at this
      exact this

theorem WR.freeze {IM : Imm} {bs : List Blk} {w : World} {H : AH} (h : WR IM bs w H) {k : Nat} {u : U} {xs : List (El u)} {n : Nat} (hk : H[k]? = some (.row u xs)) (hn : n ≤ xs.length) :
    ∃ IM', WR IM' bs w (H.set k .dead) ∧ Ext IM bs w H IM' bs w (H.set k .dead) ∧ ∀ v, VR IM bs v (.ref k 0 n) → VR IM' bs v (.isl u (xs.take n)) := by
  obtain ⟨IM', g1, g2, g3⟩ := h.freeze' hk
  exact ⟨IM', g1, g2, fun v hv => by simpa using g3 0 n v (by omega) hv⟩

end Go.Abs
end

section
set_option autoImplicit false
set_option linter.unusedVariables false
set_option linter.unusedSimpArgs false
namespace Go.Abs
open Go

/-- What the plain side knows of a type. -/
inductive TD where
  | int (k : IntKind) | bool | str | ptr | slice (e : TypeId) | arr (n : Nat) (e : TypeId) | map (k e : TypeId)
  | struct (fs : List (Nat × TypeId)) | fn | iface | other

structure TI where
  d : TD
  sz : Nat
  bytes : Nat
  zero : AV
  u : Option U

def TD.agg : TD → Bool
  | .arr _ _ => true
  | .struct _ => true
  | _ => false

def TDok : TypeDesc → TD → Prop
  | .int k, .int k' => k = k'
  | .bool, .bool => True
  | .string, .str => True
  | .pointer _, .ptr => True
  | .slice e, .slice e' => e = e'
  | .array n e, .arr n' e' => n = n' ∧ e = e'
  | .map k e, .map k' e' => k = k' ∧ e = e'
  | .struct fs, .struct fs' => fs' = fs.toList.map fun f => (f.offset, f.type)
  | .func _ _ _, .fn => True
  | .interface _, .iface => True
  | _, _ => False

structure TOk (P : Program) (t : TypeId) (i : TI) : Prop where
  und : ∃ d, P.underlying t = some d ∧ TDok d i.d
  inf : ∃ inf z, P.info? t = some inf ∧ inf.size = i.sz ∧ inf.bytes = i.bytes ∧ inf.zero = some z ∧ z.cells.size = i.sz ∧ (∀ IM bs, VR IM bs z i.zero) ∧
    (∀ v ∈ z.cells.toList, v.oneCell' = true) ∧
    (∀ u, i.u = some u → u.sz = i.sz ∧ ∀ (IM : Imm) (bs : List Blk) (j : Nat) (c : AV), (enc u (dflt u)).cells[j]? = some c → VR IM bs (z.cells.getD j undef) c)

/-- What a comparison of structs asks of their type. -/
def EqOk (P : Program) (t : TypeId) : Prop :=
  P.stoodInHeld t = false ∧ P.eqGuardType P.depth t = false ∧ ∀ fields, P.underlying t = some (.struct fields) → ∀ f ∈ fields.toList, f.name ≠ "_"

def nth : List TI → Nat → Option TI
  | [], _ => none
  | a :: _, 0 => some a
  | _ :: r, n + 1 => nth r n

structure Ctx where
  P : Program
  tab : List TI
  ok : ∀ t i, nth tab t = some i → i.d.agg = false ∧ i.sz = 0 ∨ TOk P t i
  eqs : ∀ t i fs, nth tab t = some i → i.d = .struct fs → EqOk P t

/-- Types that are not needed stand in the table with size 0. -/
theorem Ctx.tok (C : Ctx) {t : TypeId} {i : TI} (h : nth C.tab t = some i) (hs : i.sz ≠ 0) : TOk C.P t i := by
  rcases C.ok t i h with ⟨_, h0⟩ | h
  · exact (hs h0).elim
  · exact h

def Ctx.ty (C : Ctx) (t : TypeId) : Option TI :=
  match nth C.tab t with
  | some i => match i.sz with
    | 0 => none
    | _ + 1 => some i
  | none => none

theorem Ctx.tyok {C : Ctx} {t : TypeId} {i : TI} (h : C.ty t = some i) : TOk C.P t i ∧ i.sz ≠ 0 := by
  unfold Ctx.ty at h
  split at h
  · rename_i j hj
    split at h
    · cases h
    · rename_i n hn
      cases h
      exact ⟨C.tok hj (by omega), by omega⟩
  · cases h

theorem Ctx.nth {C : Ctx} {t : TypeId} {i : TI} (h : C.ty t = some i) : Abs.nth C.tab t = some i := by
  unfold Ctx.ty at h
  split at h
  · split at h
    · cases h
    · cases h; assumption
  · cases h

def const1 : Value → Option AV
  | .bool b => some (.bool b)
  | .int k n => some (.int k n)
  | .string s => some (.str s.data.toList)
  | .pointer none => some .nilp
  | .slice none 0 0 => some .nilsl
  | .map none => some .nilmap
  | .nilFunc => some .nilfn
  | .nilIface => some .nili
  | _ => none

def constL : List Value → Option (List AV)
  | [] => some []
  | v :: r => match const1 v, constL r with
    | some a, some l => some (a :: l)
    | _, _ => none

def constA : Value → Option AV
  | .agg cs => match constL cs.toList with
    | some l => some (.agg l)
    | none => none
  | v => const1 v

def opd (env : Env) : Operand → Option AV
  | .tmp t => look t env
  | .const v => constA v
  | .func f => some (.fn f [])
  | .global _ => none

theorem VR.const1 {IM : Imm} {bs : List Blk} {v : Value} {a : AV} (h : const1 v = some a) : VR IM bs v a := by
  unfold Abs.const1 at h
  split at h <;> first | (cases h; constructor) | cases h

theorem constL_get : ∀ (l : List Value) (r : List AV), constL l = some r → l.length = r.length ∧ ∀ (j : Nat) (c : AV), r[j]? = some c → ∃ v, l[j]? = some v ∧ const1 v = some c
  | [], r, h => by
    cases h
    exact ⟨rfl, fun j c hc => by simp at hc⟩
  | v :: l, r, h => by
    unfold constL at h
    split at h
    · rename_i a l' h1 h2
      cases h
      obtain ⟨g1, g2⟩ := constL_get l l' h2
      refine ⟨by simp [g1], fun j c hc => ?_⟩
      cases j with
      | zero => simp at hc; subst hc; exact ⟨v, rfl, h1⟩
      | succ j => simpa using g2 j c (by simpa using hc)
    · cases h

theorem VR.constA {IM : Imm} {bs : List Blk} {v : Value} {a : AV} (h : constA v = some a) : VR IM bs v a := by
  unfold Abs.constA at h
  split at h
  · rename_i cs
    split at h
    · rename_i l hl
      cases h
      obtain ⟨h1, h2⟩ := constL_get _ _ hl
      refine .agg l cs (by simpa using h1) fun j c hc => ?_
      obtain ⟨v, hv, hc'⟩ := h2 j c hc
      have : cs[j]? = some v := by simpa using hv
      rw [Array.getD_eq_getD_getElem?, this]
      exact VR.const1 hc'
    · cases h
  · exact VR.const1 h

theorem opd_ok {IM : Imm} {bs : List Blk} {a : Act} {env : Env} (h : EnvR IM bs a.tmps env) {x : Operand} {v : AV} (hx : opd env x = some v) : VR IM bs (a.eval x) v := by
  cases x with
  | tmp t => exact h t v hx
  | const c => exact VR.constA hx
  | func f =>
    cases hx
    exact .fn f [] #[] rfl (fun j c hc => by simp at hc)
  | global g => cases hx

/-- A stretch that ends with one value: what it has made of the world. -/
def Gives (P : Program) (s : Sem Next) (IM : Imm) (bs : List Blk) (w : World) (H : AH) (K : AV → AH → Prop) : Prop :=
  ∃ v w' IM' bs' H' av, (s.run P w = .ok (.value v) w' ∨ (s.run P w = .ok .skip w' ∧ v = undef)) ∧ VR IM' bs' v av ∧ WR IM' bs' w' H' ∧ Ext IM bs w H IM' bs' w' H' ∧ K av H'

theorem Gives.pure {P : Program} {s : Sem Next} {IM : Imm} {bs : List Blk} {w : World} {H : AH} {K : AV → AH → Prop} {v : Value} {av : AV} (hw : WR IM bs w H)
    (hr : s.run P w = .ok (.value v) w) (hv : VR IM bs v av) (hk : K av H) : Gives P s IM bs w H K :=
  ⟨v, w, IM, bs, H, av, .inl hr, hv, hw, Ext.refl _ _ _ _, hk⟩

def get1 {α : Type} (x : Option α) (k : α → Prop) : Prop := match x with
  | some a => k a
  | none => False

def inI64 (r : Int) : Prop := -9223372036854775808 ≤ r ∧ r ≤ 9223372036854775807

theorem wrap_i64 {r : Int} (h : inI64 r) : IntKind.i64.wrap r = r := by
  unfold inI64 at h
  simp only [IntKind.wrap, IntKind.signed, IntKind.bits]
  simp
  omega

/-- The operators. -/
def binA (op : BinOp) (x y : AV) (K : AV → Prop) : Prop :=
  match op, x, y with
  | .add, .int .i64 a, .int .i64 b => Ovf (inI64 (a + b)) (K (.int .i64 (a + b))) (K (.int .i64 (IntKind.i64.wrap (a + b))))
  | .sub, .int .i64 a, .int .i64 b => Ovf (inI64 (a - b)) (K (.int .i64 (a - b))) (K (.int .i64 (IntKind.i64.wrap (a - b))))
  | .mul, .int .i64 a, .int .i64 b => Ovf (inI64 (a * b)) (K (.int .i64 (a * b))) (K (.int .i64 (IntKind.i64.wrap (a * b))))
  | .quo, .int .i64 a, .int .i64 b => Alt (Side (0 ≤ a ∧ 0 < b ∧ a ≤ 9223372036854775807) (K (.int .i64 (a / b)))) (Side (b ≠ 0) (K (.int .i64 (IntKind.i64.wrap (a.tdiv b)))))
  | .rem, .int .i64 a, .int .i64 b => Alt (Side (0 ≤ a ∧ 0 < b) (K (.int .i64 (a % b)))) (Side (b ≠ 0) (K (.int .i64 (a.tmod b))))
  | .lss, .int .i64 a, .int .i64 b => K (.bool (decide (a < b)))
  | .leq, .int .i64 a, .int .i64 b => K (.bool (decide (a ≤ b)))
  | .gtr, .int .i64 a, .int .i64 b => K (.bool (decide (b < a)))
  | .geq, .int .i64 a, .int .i64 b => K (.bool (decide (b ≤ a)))
  | .eql, .int .i64 a, .int .i64 b => K (.bool (decide (a = b)))
  | .neq, .int .i64 a, .int .i64 b => K (.bool (!decide (a = b)))
  | .add, .int .u64 a, .int .u64 b => K (.int .u64 (IntKind.u64.wrap (a + b)))
  | .mul, .int .u64 a, .int .u64 b => K (.int .u64 (IntKind.u64.wrap (a * b)))
  | .shr, .int .u64 a, .int yk b => Side (0 ≤ b) (K (.int .u64 (a.fdiv (2 ^ (min b.toNat 64)))))
  | .and, .int .u64 a, .int .u64 b => K (.int .u64 (IntKind.u64.wrap ((BitVec.ofInt 64 a &&& BitVec.ofInt 64 b).toNat)))
  | .add, .int .u8 a, .int .u8 b => K (.int .u8 (IntKind.u8.wrap (a + b)))
  | .sub, .int .u8 a, .int .u8 b => K (.int .u8 (IntKind.u8.wrap (a - b)))
  | .lss, .int .u8 a, .int .u8 b => K (.bool (decide (a < b)))
  | .leq, .int .u8 a, .int .u8 b => K (.bool (decide (a ≤ b)))
  | .gtr, .int .u8 a, .int .u8 b => K (.bool (decide (b < a)))
  | .geq, .int .u8 a, .int .u8 b => K (.bool (decide (b ≤ a)))
  | .eql, .int .u8 a, .int .u8 b => K (.bool (decide (a = b)))
  | .neq, .int .u8 a, .int .u8 b => K (.bool (!decide (a = b)))
  | .add, .str a, .str b => Side (a.length + b.length ≤ 1099511627776) (K (.str (a ++ b)))
  | .eql, .str a, .str b => K (.bool (decide (a = b)))
  | .neq, .str a, .str b => K (.bool (!decide (a = b)))
  | _, _, _ => False


theorem str_add {a b : ByteArray} : (a ++ b).data.toList = a.data.toList ++ b.data.toList := by
  simp [ByteArray.data_append]

theorem binA_ok {P : Program} {w : World} {IM : Imm} {bs : List Blk} {op : BinOp} {t : TypeId} {xo yo : Operand} {vx vy : Value} {x y : AV} {K : AV → Prop}
    (h : binA op x y K) (hx : VR IM bs vx x) (hy : VR IM bs vy y) :
    ∃ v av, (do eqGuard op t xo yo vx vy; binOp op t vx vy : Sem Value).run P w = .ok v w ∧ VR IM bs v av ∧ K av := by
  unfold binA at h
  split at h
  case h_24 a b =>
    cases hx with
    | str sx =>
    cases hy with
    | str sy =>
    have e : ¬ ((9223372036854775807 : Int) < (sx.size : Int) + (sy.size : Int)) := by
      have h1 := h.1
      have := Lib.size_eq sx
      have := Lib.size_eq sy
      omega
    refine ⟨_, _, ?_, .str (sx ++ sy), by rw [str_add]; exact h.2⟩
    simp [eqGuard, binOp, Op.stringOp, go_sem, IntKind.max, IntKind.signed, IntKind.bits, e]
  case h_25 a b =>
    cases hx with
    | str sx =>
    cases hy with
    | str sy =>
    refine ⟨_, _, ?_, .bool _, h⟩
    simp [eqGuard, binOp, Op.stringOp, go_sem, Lib.toList_data, -Array.toList_inj]
    rw [Bool.eq_iff_iff, beq_iff_eq, decide_eq_true_eq, Array.toList_inj]
  case h_26 a b =>
    cases hx with
    | str sx =>
    cases hy with
    | str sy =>
    refine ⟨_, _, ?_, .bool _, h⟩
    simp [eqGuard, binOp, Op.stringOp, go_sem, Lib.toList_data, -Array.toList_inj]
    rw [Bool.eq_iff_iff, beq_iff_eq, decide_eq_true_eq, Array.toList_inj]
  case h_4 a b =>
    cases hx; cases hy
    rcases h with ⟨⟨h1, h2, h3⟩, hk⟩ | ⟨h1, hk⟩
    · refine ⟨_, _, ?_, .int .i64 (a / b), hk⟩
      have e : b ≠ 0 := by omega
      have d : a.tdiv b = a / b := Int.tdiv_eq_ediv_of_nonneg h1
      have l1 : 0 ≤ a / b := Int.ediv_nonneg h1 (by omega)
      have l2 : a / b ≤ a := Int.ediv_le_self _ h1
      simp [eqGuard, binOp, Op.intDiv, go_sem, e, d]
      exact wrap_i64 ⟨by omega, by omega⟩
    · refine ⟨_, _, ?_, .int .i64 _, hk⟩
      simp [eqGuard, binOp, Op.intDiv, go_sem, h1]
  case h_5 a b =>
    cases hx; cases hy
    rcases h with ⟨⟨h1, h2⟩, hk⟩ | ⟨h1, hk⟩
    · refine ⟨_, _, ?_, .int .i64 (a % b), hk⟩
      have e : b ≠ 0 := by omega
      simp [eqGuard, binOp, Op.intDiv, go_sem, e, Int.tmod_eq_emod_of_nonneg h1]
    · refine ⟨_, _, ?_, .int .i64 (a.tmod b), hk⟩
      simp [eqGuard, binOp, Op.intDiv, go_sem, h1]
  case h_14 a yk b =>
    cases hx; cases hy
    have hb0 := h.1
    refine ⟨_, _, ?_, .int .u64 _, h.2⟩
    have e : ¬ b < 0 := by omega
    simp [eqGuard, binOp, Op.shift, go_sem, e, IntKind.bits]
  case h_27 => exact h.elim
  case h_1 a b =>
    cases hx; cases hy
    rcases h with ⟨hi, hk⟩ | hk
    · refine ⟨_, _, ?_, .int .i64 (a + b), hk⟩
      simp [eqGuard, binOp, Op.intArith, go_sem]; exact wrap_i64 hi
    · refine ⟨_, _, ?_, .int .i64 _, hk⟩
      simp [eqGuard, binOp, Op.intArith, go_sem]
  case h_2 a b =>
    cases hx; cases hy
    rcases h with ⟨hi, hk⟩ | hk
    · refine ⟨_, _, ?_, .int .i64 (a - b), hk⟩
      simp [eqGuard, binOp, Op.intArith, go_sem]; exact wrap_i64 hi
    · refine ⟨_, _, ?_, .int .i64 _, hk⟩
      simp [eqGuard, binOp, Op.intArith, go_sem]
  case h_3 a b =>
    cases hx; cases hy
    rcases h with ⟨hi, hk⟩ | hk
    · refine ⟨_, _, ?_, .int .i64 (a * b), hk⟩
      simp [eqGuard, binOp, Op.intArith, go_sem]; exact wrap_i64 hi
    · refine ⟨_, _, ?_, .int .i64 _, hk⟩
      simp [eqGuard, binOp, Op.intArith, go_sem]
  all_goals first
    | (cases hx; cases hy; exact ⟨_, _, by simp [eqGuard, binOp, Op.intArith, Op.intCmp, Op.intBits, go_sem, IntKind.bits]; try rfl, .int _ _, h⟩)
    | (cases hx; cases hy; exact ⟨_, _, by simp [eqGuard, binOp, Op.intArith, Op.intCmp, Op.intBits, go_sem]; try rfl, .bool _, h⟩)
end Go.Abs
end

section
set_option autoImplicit false
set_option linter.unusedVariables false
set_option linter.unusedSimpArgs false
namespace Go.Abs
open Go

def CR (IM : Imm) (bs : List Blk) (arr : Array Value) (o : Nat) (cs : List AV) : Prop :=
  o + cs.length ≤ arr.size ∧ ∀ (j : Nat) (c : AV), cs[j]? = some c → VR IM bs (arr.getD (o + j) undef) c

def ath : AH → Nat → Option AObj
  | [], _ => none
  | o :: _, 0 => some o
  | _ :: r, n + 1 => ath r n
theorem ath_eq : ∀ (H : AH) (k : Nat), ath H k = H[k]?
  | [], k => by simp [ath]
  | o :: r, 0 => by simp [ath]
  | o :: r, k + 1 => by simp [ath, ath_eq r k]

def put (k : Nat) (o : AObj) : AH → AH
  | [] => []
  | x :: r => match k with
    | 0 => o :: r
    | k + 1 => x :: put k o r
theorem put_eq : ∀ (H : AH) (k : Nat) (o : AObj), put k o H = H.set k o
  | [], k, o => by simp [put]
  | x :: r, 0, o => by simp [put]
  | x :: r, k + 1, o => by simp [put, put_eq r k o]

def lat {α : Type} : List α → Nat → Option α
  | [], _ => none
  | o :: _, 0 => some o
  | _ :: r, n + 1 => lat r n
theorem lat_eq {α : Type} : ∀ (H : List α) (k : Nat), lat H k = H[k]?
  | [], k => by simp [lat]
  | o :: r, 0 => by simp [lat]
  | o :: r, k + 1 => by simp [lat, lat_eq r k]

/-- A list, told out. -/
def nl : List AV → Option (List AV)
  | [] => some []
  | a :: r => match nl r with
    | some r' => some (a :: r')
    | none => none
theorem nl_eq : ∀ (l : List AV), nl l = some l
  | [] => rfl
  | a :: r => by unfold nl; rw [nl_eq r]

/-- What lies at cell f of cells, as a value of a type. -/
def loadC (i : TI) (cs : List AV) (f : Nat) : Option AV :=
  match i.d.agg with
  | true => match Nat.ble (f + i.sz) cs.length with
    | true => match nl ((cs.drop f).take i.sz) with
      | some l => some (.agg l)
      | none => none
    | false => none
  | false => lat cs f

def loadA (C : Ctx) (t : TypeId) (a : AV) (H : AH) (K : AV → Prop) : Prop :=
  match C.ty t, a with
  | some i, .iptr u xs j f => get1 (loadC i (enc u (xs.getD j (dflt u))).cells f) K
  | some i, .ptr k j f => match ath H k with
    | some (.box cs) => match j with
      | 0 => get1 (loadC i cs f) K
      | _ + 1 => False
    | some (.row u xs) => Side (j < xs.length) (get1 (loadC i (enc u (xs.getD j (dflt u))).cells f) K)
    | some (.rowA xs) => Side (j < xs.length) (match i.d.agg, f with
      | false, 0 => K (xs.getD j .junk)
      | _, _ => False)
    | _ => False
  | _, _ => False

theorem cell_of {w : World} {b o : Nat} {m : Array Value} {e : TypeId} {fz : Nat × Nat} (h : w.heap[b]? = some (.cells m e fz)) (ho : o < m.size) : w.cell? ⟨b, o, none⟩ = some (m.getD o undef) := by
  simp [World.cell?, h, Array.getD_eq_getD_getElem?, ho]

theorem TOk.run_und {P : Program} {t : TypeId} {i : TI} (h : TOk P t i) (w : World) : ∃ d, (underlying t).run P w = .ok d w ∧ TDok d i.d := by
  obtain ⟨d, h1, h2⟩ := h.und
  exact ⟨d, run_underlying h1 w, h2⟩

theorem run_sizeOf' {P : Program} {t : TypeId} {i : TI} (h : TOk P t i) (w : World) : (sizeOf t).run P w = .ok i.sz w := by
  obtain ⟨inf, z, h1, h2, _⟩ := h.inf
  simp [sizeOf, typeInfo, go_sem, h1, h2]

theorem run_isAgg {P : Program} {t : TypeId} {i : TI} (h : TOk P t i) (w : World) : (isAgg t).run P w = .ok i.d.agg w := by
  obtain ⟨d, h1, h2⟩ := h.run_und w
  simp [isAgg, go_sem, h1]
  cases d <;> cases hd : i.d <;> rw [hd] at h2 <;> simp_all [TDok, TD.agg]

theorem add_none (b o n : Nat) : Addr.add ⟨b, o, none⟩ n = ⟨b, o + n, none⟩ := by
  unfold Addr.add; split <;> simp_all

theorem load_ok {P : Program} {IM : Imm} {bs : List Blk} {w : World} {t : TypeId} {i : TI} (ht : TOk P t i) {b o f : Nat} {m : Array Value} {e : TypeId} {fz : Nat × Nat} {cs : List AV} {av : AV}
    (hh : w.heap[b]? = some (.cells m e fz)) (hc : CR IM bs m o cs) (hl : loadC i cs f = some av) :
    ∃ v, (loadVar t ⟨b, o + f, none⟩).run P w = .ok v w ∧ VR IM bs v av := by
  unfold loadC at hl
  cases ha : i.d.agg with
  | true =>
    rw [ha] at hl
    dsimp only at hl
    cases hle : Nat.ble (f + i.sz) cs.length with
    | false => rw [hle] at hl; cases hl
    | true =>
      rw [hle] at hl
      dsimp only at hl
      rw [nl_eq] at hl
      cases hl
      have hle' := Nat.le_of_ble_eq_true hle
      have hb := hc.1
      have hr := run_loadCells (P := P) w ⟨b, o + f, none⟩ i.sz (fun j => m.getD (o + f + j) undef) (fun j hj => by
        rw [add_none]; exact cell_of hh (by omega))
      unfold loadCells at hr
      refine ⟨_, by simp [loadVar, go_sem, run_isAgg ht, ha, run_sizeOf' ht, hr]; rfl, .agg _ _ ?_ ?_⟩
      · simp; omega
      · intro j c hj
        have hj' : j < i.sz := by have := lt_of_getL hj; simp at this; omega
        rw [List.getElem?_take, if_pos hj', List.getElem?_drop] at hj
        have := hc.2 (f + j) c hj
        simp only [Array.getD_eq_getD_getElem?] at this ⊢
        simpa [hj', Nat.add_assoc] using this
  | false =>
    rw [ha] at hl
    dsimp only at hl
    rw [lat_eq] at hl
    have hf := lt_of_getL hl
    have hb := hc.1
    refine ⟨m.getD (o + f) undef, ?_, hc.2 f av hl⟩
    simp [loadVar, go_sem, run_isAgg ht, ha, cell_of hh (show o + f < m.size by omega)]

theorem get1_some {α : Type} {x : Option α} {k : α → Prop} (h : get1 x k) : ∃ a, x = some a ∧ k a := by
  unfold get1 at h
  split at h
  · exact ⟨_, rfl, h⟩
  · exact h.elim

theorem row_mul {i n cap sz : Nat} (h : i < n) (hc : n ≤ cap) : i * sz + sz ≤ cap * sz := by
  have : (i + 1) * sz ≤ cap * sz := Nat.mul_le_mul_right _ (by omega)
  rw [Nat.add_mul, Nat.one_mul] at this
  exact this

theorem mkCR {IM : Imm} {bs : List Blk} {m : Array Value} {u : U} {x : El u} {o : Nat} (hb : o + u.sz ≤ m.size)
    (hv : ∀ (j : Nat) (c : AV), (enc u x).cells[j]? = some c → VR IM bs (m.getD (o + j) undef) c) : CR IM bs m o (enc u x).cells :=
  ⟨by rw [enc_cells]; exact hb, hv⟩

theorem getBlk {IM : Imm} {bs : List Blk} {w : World} {H : AH} (h : WR IM bs w H) {k : Nat} {o : AObj} (hk : H[k]? = some o) : ∃ B, bs[k]? = some B :=
  ⟨bs[k]'(by have := h.len; have := lt_of_getL hk; omega), List.getElem?_eq_getElem _⟩

theorem boxCR {IM : Imm} {bs : List Blk} {w : World} {H : AH} (hw : WR IM bs w H) {k : Nat} {cs : List AV} {B : Blk} (hk : H[k]? = some (.box cs)) (hB : bs[k]? = some B) :
    ∃ cur e fz, w.heap[B.b]? = some (.cells cur e fz) ∧ (fz.2 ≤ fz.1 ∨ cur.size ≤ fz.1) ∧ cur.size = B.cap * cs.length ∧ 1 ≤ B.cap ∧ CR IM bs cur 0 cs ∧ Claim (.box cs) B ∧ B.sz = cs.length := by
  obtain ⟨h1, h2, cur, e, fz, h3, h4, h5, h6, h7⟩ := hw.obj k _ B hk hB
  refine ⟨cur, e, fz, h3, h4, h5, h6, ⟨?_, fun j c hc => ?_⟩, ⟨rfl, h2⟩, h1⟩
  · rw [h5, Nat.zero_add]; exact Nat.le_mul_of_pos_left _ h6
  · have := h7 0 j c (by omega) hc
    simpa using this

theorem rowCR {IM : Imm} {bs : List Blk} {w : World} {H : AH} (hw : WR IM bs w H) {k : Nat} {u : U} {xs : List (El u)} {B : Blk} (hk : H[k]? = some (.row u xs)) (hB : bs[k]? = some B) (hx : B.sz ≠ 0 ∨ xs ≠ []) :
    ∃ cur e fz, w.heap[B.b]? = some (.cells cur e fz) ∧ (fz.2 ≤ fz.1 ∨ cur.size ≤ fz.1) ∧ cur.size = B.cap * u.sz ∧ xs.length ≤ B.cap ∧ B.sz = u.sz ∧ Claim (.row u xs) B ∧
      ∀ (j : Nat) (x : El u), xs[j]? = some x → CR IM bs cur (j * u.sz) (enc u x).cells := by
  rcases hw.obj k _ B hk hB with ⟨h1, _, h2⟩ | ⟨h1, cur, e, fz, h3, h4, h5, h6, h7⟩
  · rcases hx with h | h
    · exact (h h1).elim
    · exact (h h2).elim
  · refine ⟨cur, e, fz, h3, h4, h5, h6, h1, ⟨rfl, by rw [h1]; exact Nat.ne_of_gt u.sz_pos⟩, fun j x hx => ?_⟩
    have hj := lt_of_getL hx
    have hr := row_mul (sz := u.sz) hj h6
    exact mkCR (by omega) fun q c hc => h7 j q c hj (by show (enc u (xs.getD j (dflt u))).cells[q]? = some c; rw [List.getD_eq_getElem?_getD, hx]; exact hc)

theorem rowACR {IM : Imm} {bs : List Blk} {w : World} {H : AH} (hw : WR IM bs w H) {k : Nat} {xs : List AV} {B : Blk} (hk : H[k]? = some (.rowA xs)) (hB : bs[k]? = some B) :
    ∃ cur e fz, w.heap[B.b]? = some (.cells cur e fz) ∧ (fz.2 ≤ fz.1 ∨ cur.size ≤ fz.1) ∧ cur.size = B.cap ∧ xs.length ≤ B.cap ∧ B.sz = 1 ∧ Claim (.rowA xs) B ∧
      ∀ (j : Nat) (x : AV), xs[j]? = some x → VR IM bs (cur.getD j undef) x := by
  obtain ⟨h1, cur, e, fz, h3, h4, h5, h6, h7⟩ := hw.obj k _ B hk hB
  refine ⟨cur, e, fz, h3, h4, by rw [h5, Nat.mul_one], h6, h1, ⟨rfl, by rw [h1]; decide⟩, fun j x hx => ?_⟩
  have := h7 j 0 x (lt_of_getL hx) (by show [xs.getD j .junk][0]? = some x; rw [List.getD_eq_getElem?_getD, hx]; rfl)
  simpa using this

theorem getD_of {α : Type} {xs : List α} {j : Nat} (d : α) (h : j < xs.length) : xs[j]? = some (xs.getD j d) := by
  rw [List.getD_eq_getElem?_getD, List.getElem?_eq_getElem h]; rfl

theorem loadA_ok {C : Ctx} {t : TypeId} {a : AV} {H : AH} {K : AV → Prop} {IM : Imm} {bs : List Blk} {w : World} {v : Value} (h : loadA C t a H K) (hw : WR IM bs w H) (hv : VR IM bs v a) :
    ∃ r av, (Instr.loadAt t v).run C.P w = .ok r w ∧ VR IM bs r av ∧ K av := by
  unfold loadA at h
  split at h
  · rename_i i u xs j f hi
    obtain ⟨av, hl, hk⟩ := get1_some h
    cases hv with
    | iptr _ _ _ _ b o m hm hb hji hvv =>
      obtain ⟨e, fz, hh⟩ := hw.imm b m hm
      have ht := (C.tyok hi).1
      have hr := row_mul (sz := u.sz) hji (Nat.le_refl _)
      obtain ⟨r, h1, h2⟩ := load_ok (o := o + j * u.sz) (f := f) ht hh (mkCR (x := xs.getD j (dflt u)) (by omega) fun q c hc => hvv j _ q c (getD_of _ hji) hc) hl
      exact ⟨r, av, by simpa [Instr.loadAt, Instr.sureAddr, go_sem] using h1, h2, hk⟩
  · rename_i i k j f hi
    have ht := (C.tyok hi).1
    rw [ath_eq] at h
    cases hv with
    | ptr _ _ _ B hB =>
    split at h
    · rename_i cs hk
      split at h
      · obtain ⟨av, hl, hK⟩ := get1_some h
        obtain ⟨cur, e, fz, hh, _, _, _, hc, _⟩ := boxCR hw hk hB
        obtain ⟨r, h1, h2⟩ := load_ok (f := f) ht hh hc hl
        exact ⟨r, av, by simpa [Instr.loadAt, Instr.sureAddr, go_sem] using h1, h2, hK⟩
      · exact h.elim
    · rename_i u xs hk
      obtain ⟨hj, h⟩ := h
      obtain ⟨av, hl, hK⟩ := get1_some h
      obtain ⟨cur, e, fz, hh, _, _, _, hsz, _, hc⟩ := rowCR hw hk hB (.inr fun e => by rw [e] at hj; simp at hj)
      obtain ⟨r, h1, h2⟩ := load_ok (f := f) ht hh (hc j _ (getD_of _ hj)) hl
      exact ⟨r, av, by rw [hsz]; simpa [Instr.loadAt, Instr.sureAddr, go_sem] using h1, h2, hK⟩
    · rename_i xs hk
      obtain ⟨hj, h⟩ := h
      split at h
      · rename_i hagg
        obtain ⟨cur, e, fz, hh, _, hcs, hle, hsz, _, hc⟩ := rowACR hw hk hB
        refine ⟨cur.getD j undef, _, ?_, hc j _ (getD_of .junk hj), h⟩
        rw [hsz]
        simp [Instr.loadAt, Instr.sureAddr, loadVar, go_sem, run_isAgg ht, hagg, cell_of hh (show j < cur.size by omega)]
      · exact h.elim
    · exact h.elim
  · exact h.elim

end Go.Abs
end

section
set_option autoImplicit false
set_option linter.unusedVariables false
set_option linter.unusedSimpArgs false
namespace Go.Abs
open Go

def AV.one : AV → Bool
  | .agg _ => false
  | .tup _ => false
  | .junk => false
  | _ => true

theorem VR.one {IM : Imm} {bs : List Blk} {v : Value} {a : AV} (h : VR IM bs v a) (ho : a.one = true) : v.oneCell' = true := by
  cases h <;> first | rfl | cases ho

theorem VR.cells {IM : Imm} {bs : List Blk} {v : Value} {a : AV} (h : VR IM bs v a) (ho : a.cells.all AV.one = true) :
    v.cells.size = a.cells.length ∧ (∀ (j : Nat) (c : AV), a.cells[j]? = some c → VR IM bs (v.cells.getD j undef) c) ∧ ∀ u ∈ v.cells.toList, u.oneCell' = true := by
  have one : ∀ (v : Value) (a : AV), VR IM bs v a → v.cells = #[v] → a.cells = [a] → a.one = true →
      v.cells.size = a.cells.length ∧ (∀ (j : Nat) (c : AV), a.cells[j]? = some c → VR IM bs (v.cells.getD j undef) c) ∧ ∀ u ∈ v.cells.toList, u.oneCell' = true := by
    intro v a h hv ha ho
    rw [hv, ha]
    refine ⟨rfl, fun j c hc => ?_, fun u hu => ?_⟩
    · cases j with
      | zero => simp at hc; subst hc; exact h
      | succ j => simp at hc
    · simp at hu; subst hu; exact h.one ho
  cases h with
  | agg cs vs hs hv =>
    refine ⟨hs, hv, fun u hu => ?_⟩
    obtain ⟨j, hj⟩ := List.getElem?_of_mem hu
    simp only [Value.cells, Array.getElem?_toList] at hj
    have hjl : j < cs.length := by have := lt_of_get hj; omega
    have hc := List.getElem?_eq_getElem hjl
    have := hv j _ hc
    rw [Array.getD_eq_getD_getElem?, hj] at this
    refine VR.one this ?_
    simp only [AV.cells, List.all_eq_true] at ho
    exact ho _ (List.getElem_mem hjl)
  | tup => simp [AV.cells, AV.one] at ho
  | junk => simp [AV.cells, AV.one] at ho
  | _ => exact one _ _ (by constructor <;> assumption) rfl rfl rfl

def wrs (cur : Array Value) (o : Nat) : List Value → Array Value
  | [] => cur
  | v :: r => wrs (cur.setIfInBounds o v) (o + 1) r

theorem wrs_size : ∀ (vs : List Value) (cur : Array Value) (o : Nat), (wrs cur o vs).size = cur.size
  | [], _, _ => rfl
  | v :: r, cur, o => by rw [wrs, wrs_size r]; simp

theorem wrs_out : ∀ (vs : List Value) (cur : Array Value) (o p : Nat), (p < o ∨ o + vs.length ≤ p) → (wrs cur o vs).getD p undef = cur.getD p undef
  | [], _, _, _, _ => rfl
  | v :: r, cur, o, p, h => by
    rw [wrs, wrs_out r _ _ _ (by simp at h; omega)]
    simp only [Array.getD_eq_getD_getElem?, Array.getElem?_setIfInBounds]
    rw [if_neg (by simp at h; omega)]

theorem wrs_in : ∀ (vs : List Value) (cur : Array Value) (o j : Nat), j < vs.length → o + vs.length ≤ cur.size → (wrs cur o vs).getD (o + j) undef = vs.getD j undef
  | [], _, _, _, h, _ => by simp at h
  | v :: r, cur, o, 0, h, hb => by
    simp only [List.length_cons] at hb
    rw [wrs, wrs_out r _ _ _ (by omega)]
    simp [Array.getD_eq_getD_getElem?, Array.getElem?_setIfInBounds, show o < cur.size by omega]
  | v :: r, cur, o, j + 1, h, hb => by
    simp only [List.length_cons] at hb h
    rw [wrs, show o + (j + 1) = (o + 1) + j by omega, wrs_in r _ _ _ (by omega) (by simp; omega)]
    simp

theorem heap_setCells {b : Nat} {e : TypeId} {fz : Nat × Nat} : ∀ (vs : List Value) (o : Nat) (w : World) (cur : Array Value), w.heap[b]? = some (.cells cur e fz) →
    (w.setCells b o vs).heap[b]? = some (.cells (wrs cur o vs) e fz)
  | [], _, _, _, h => h
  | v :: r, o, w, cur, h => by
    rw [World.setCells, wrs]
    refine heap_setCells r (o + 1) _ _ ?_
    simp [World.setCell, Array.getElem?_modify, h]

theorem heap_setCells_ne (b : Nat) : ∀ (vs : List Value) (o : Nat) (w : World) (c : Nat), c ≠ b → (w.setCells b o vs).heap[c]? = w.heap[c]?
  | [], _, _, _, _ => rfl
  | v :: r, o, w, c, h => by
    rw [World.setCells, heap_setCells_ne b r (o + 1) _ c h]
    simp only [World.setCell, Array.getElem?_modify]
    rw [if_neg fun e => h (Eq.symm e)]

theorem same_setCells (b : Nat) : ∀ (vs : List Value) (o : Nat) (w : World), Same w (w.setCells b o vs)
  | [], _, w => Same.refl w
  | v :: r, o, w => by
    rw [World.setCells]
    exact Same.trans (b := w.setCell ⟨b, o, none⟩ v) ⟨rfl, rfl, rfl, by simp [World.setCell]⟩ (same_setCells b r (o + 1) _)

def storeC (cs : List AV) (f : Nat) (vs : List AV) : Option (List AV) :=
  match Nat.ble (f + vs.length) cs.length with
  | true => nl (cs.take f ++ vs ++ cs.drop (f + vs.length))
  | false => none

theorem CR.store {IM : Imm} {bs : List Blk} {cur : Array Value} {o f : Nat} {cs cs' : List AV} {a : AV} {v : Value} (h : CR IM bs cur o cs) (hs : storeC cs f a.cells = some cs') (hv : VR IM bs v a)
    (ho : a.cells.all AV.one = true) : CR IM bs (wrs cur (o + f) v.cells.toList) o cs' ∧ cs'.length = cs.length ∧ f + a.cells.length ≤ cs.length := by
  unfold storeC at hs
  split at hs
  · rename_i hle
    rw [nl_eq] at hs
    cases hs
    have hle' := Nat.le_of_ble_eq_true hle
    obtain ⟨g1, g2, g3⟩ := hv.cells ho
    have hlen : (cs.take f ++ a.cells ++ cs.drop (f + a.cells.length)).length = cs.length := by simp; omega
    refine ⟨⟨by rw [hlen, wrs_size]; exact h.1, fun j c hc => ?_⟩, hlen, hle'⟩
    have hl2 : v.cells.toList.length = a.cells.length := by simpa using g1
    have hb := h.1
    rcases Nat.lt_or_ge j f with hj | hj
    · rw [wrs_out _ _ _ _ (by omega)]
      rw [List.append_assoc, List.getElem?_append_left (by simp; omega), List.getElem?_take, if_pos hj] at hc
      exact h.2 j c hc
    · rcases Nat.lt_or_ge j (f + a.cells.length) with hj' | hj'
      · rw [List.getElem?_append_left (by simp; omega), List.getElem?_append_right (by simp; omega)] at hc
        have e : j - (cs.take f).length = j - f := by simp; omega
        rw [e] at hc
        have := g2 (j - f) c hc
        rw [show o + j = o + f + (j - f) by omega, wrs_in _ _ _ _ (by omega) (by omega)]
        simpa [Array.getD_eq_getD_getElem?, List.getD_eq_getElem?_getD] using this
      · rw [wrs_out _ _ _ _ (by omega)]
        rw [List.getElem?_append_right (by simp; omega), List.getElem?_drop] at hc
        have e : f + a.cells.length + (j - (cs.take f ++ a.cells).length) = j := by simp; omega
        rw [e] at hc
        exact h.2 j c hc
  · cases hs


theorem castG_some : ∀ {u u' : U} {F : U → Type} {x : F u'} {y : F u}, castG u u' F x = some y → u' = u ∧ HEq x y := by
  intro u
  induction u with
  | list a ih =>
    intro u' F x y h
    cases u' with
    | list b =>
      obtain ⟨e, h2⟩ := ih (F := fun c => F (.list c)) h
      subst e
      exact ⟨rfl, h2⟩
    | _ => cases h
  | _ =>
    intro u' F x y h
    cases u' <;> first | (cases h; exact ⟨rfl, HEq.rfl⟩) | cases h
theorem castU_some {u u' : U} {xs : List (El u')} {ys : List (El u)} (h : castU u u' xs = some ys) : u' = u ∧ HEq xs ys := castG_some h

theorem dec_ok {u : U} {cs : List AV} {x : El u} (h : dec u cs = some x) : cs.length = u.sz ∧
    ∀ (j : Nat) (c : AV), (enc u x).cells[j]? = some c → ∃ c', cs[j]? = some c' ∧ ∀ (IM : Imm) (bs : List Blk) (v : Value), VR IM bs v c' → VR IM bs v c := by
  cases u with
  | int => simp only [dec] at h; unfold dInt at h; split at h <;> cases h; exact ⟨rfl, fun j c hc => ⟨c, hc, fun _ _ _ h => h⟩⟩
  | bool => simp only [dec] at h; unfold dBool at h; split at h <;> cases h; exact ⟨rfl, fun j c hc => ⟨c, hc, fun _ _ _ h => h⟩⟩
  | str => simp only [dec] at h; unfold dStr at h; split at h <;> cases h; exact ⟨rfl, fun j c hc => ⟨c, hc, fun _ _ _ h => h⟩⟩
  | tile => simp only [dec] at h; unfold dTile at h; split at h <;> cases h; exact ⟨rfl, fun j c hc => ⟨c, hc, fun _ _ _ h => h⟩⟩
  | play => simp only [dec] at h; unfold dPlay at h; split at h <;> cases h; exact ⟨rfl, fun j c hc => ⟨c, hc, fun _ _ _ h => h⟩⟩
  | arm => simp only [dec] at h; unfold dArm at h; split at h <;> cases h; exact ⟨rfl, fun j c hc => ⟨c, hc, fun _ _ _ h => h⟩⟩
  | lay => simp only [dec] at h; unfold dLay at h; split at h <;> cases h; exact ⟨rfl, fun j c hc => ⟨c, hc, fun _ _ _ h => h⟩⟩
  | u8 =>
    simp only [dec] at h
    unfold dU8 at h
    split at h
    · rename_i n
      split at h
      · rename_i hn
        cases h
        have hn' := of_decide_eq_true hn
        refine ⟨rfl, fun j c hc => ⟨c, ?_, fun _ _ _ h => h⟩⟩
        have e : ((UInt8.ofNat n.toNat).toNat : Int) = n := by
          rw [UInt8.toNat_ofNat']
          have : n.toNat % 2 ^ 8 = n.toNat := Nat.mod_eq_of_lt (by omega)
          rw [this]
          omega
        simp only [enc, AV.cells, e] at hc
        exact hc
      · cases h
    · cases h
  | list u =>
    simp only [dec] at h
    unfold dList at h
    split at h
    · obtain ⟨rfl, e⟩ := castU_some h
      cases eq_of_heq e
      exact ⟨rfl, fun j c hc => ⟨c, hc, fun _ _ _ h => h⟩⟩
    · cases h
      refine ⟨rfl, fun j c hc => ?_⟩
      cases j with
      | zero =>
        simp only [enc, AV.cells] at hc
        cases hc
        exact ⟨.nilsl, rfl, fun _ _ v hv => by cases hv; exact .isl0 _ _ _⟩
      | succ j => simp [enc, AV.cells] at hc
    · cases h

/-- The store of a value. -/
def storeA (C : Ctx) (t : TypeId) (a v : AV) (H : AH) (K : AH → Prop) : Prop :=
  match C.ty t, a, v.cells.all AV.one with
  | some i, .ptr k j f, true => match Nat.beq v.cells.length i.sz with
    | true => match ath H k with
      | some (.box cs) => match j with
        | 0 => match storeC cs f v.cells with
          | some cs' => K (put k (.box cs') H)
          | none => False
        | _ + 1 => False
      | some (.row u xs) => Side (j < xs.length) (match storeC (enc u (xs.getD j (dflt u))).cells f v.cells with
        | some cs' => match dec u cs' with
          | some x => K (put k (.row u (xs.set j x)) H)
          | none => False
        | none => False)
      | some (.rowA xs) => Side (j < xs.length) (match f with
        | 0 => match v.cells with
          | [c] => K (put k (.rowA (xs.set j c)) H)
          | _ => False
        | _ + 1 => False)
      | _ => False
    | false => False
  | _, _, _ => False

theorem run_storeVar {P : Program} {IM : Imm} {bs : List Blk} {w : World} {t : TypeId} {i : TI} (ht : TOk P t i) {b p : Nat} {m : Array Value} {e : TypeId} {fz : Nat × Nat} {a : AV} {v : Value}
    (hh : w.heap[b]? = some (.cells m e fz)) (hfz : fz.2 ≤ fz.1 ∨ m.size ≤ fz.1) (hv : VR IM bs v a) (ho : a.cells.all AV.one = true) (hl : a.cells.length = i.sz) (hp : p + a.cells.length ≤ m.size) :
    (Instr.storeAt t (.pointer (some ⟨b, p, none⟩)) v).run P w = .ok () (w.setCells b p v.cells.toList) := by
  obtain ⟨g1, g2, g3⟩ := hv.cells ho
  have hlen : v.cells.toList.length = a.cells.length := by simpa using g1
  have hst := run_storeCells_cells (P := P) b p v.cells.toList 0 w (fun j hj => by rw [cell_of hh (by omega)]; rfl) (fun j hj => by
    simp only [World.frozen?, hh]
    simp
    omega) g3
  have hne : ¬ (v.cells.size ≠ i.sz) := by rw [g1, hl]; simp
  simp only [Nat.add_zero] at hst
  show (storeVar t ⟨b, p, none⟩ v).run P w = _
  unfold storeVar
  generalize v.cells = vc at *
  simp [go_sem, run_sizeOf' ht, g1, hl, hst]

theorem storeA_ok {C : Ctx} {t : TypeId} {a va : AV} {H : AH} {K : AH → Prop} {IM : Imm} {bs : List Blk} {w : World} {p v : Value} (h : storeA C t a va H K) (hw : WR IM bs w H)
    (hp : VR IM bs p a) (hv : VR IM bs v va) :
    ∃ w' H', (Instr.storeAt t p v).run C.P w = .ok () w' ∧ WR IM bs w' H' ∧ Ext IM bs w H IM bs w' H' ∧ K H' := by
  unfold storeA at h
  split at h
  · rename_i i k j f hi hone
    have ht := (C.tyok hi).1
    split at h
    · rename_i hbeq
      have hsz := Nat.eq_of_beq_eq_true hbeq
      rw [ath_eq] at h
      cases hp with
      | ptr _ _ _ B hB =>
      split at h
      · rename_i cs hk
        split at h
        · split at h
          · rename_i cs' hst
            obtain ⟨cur, e, fz, hh, hfz, hcs, hcap, hc, hcl, hBz⟩ := boxCR hw hk hB
            obtain ⟨g1, g2, g3⟩ := hc.store hst hv hone
            have hb := hc.1
            have hrun := run_storeVar ht hh hfz hv hone hsz (show (0 * B.sz + f) + va.cells.length ≤ cur.size by omega)
            have hset := heap_setCells v.cells.toList (0 * B.sz + f) w cur hh
            obtain ⟨r1, r2⟩ := hw.update hk hcl hB (same_setCells B.b v.cells.toList (0 * B.sz + f) w) (fun b _ hne => heap_setCells_ne B.b _ _ _ b hne) (o' := .box cs')
              ⟨by rw [hBz, g2], hcl.2, _, e, fz, hset, by rw [wrs_size]; exact hfz, by rw [wrs_size, g2]; exact hcs, hcap, fun q r c hq hr => by
                have : q = 0 := by omega
                subst this
                have := g1.2 r c hr
                simpa using this⟩
            exact ⟨_, _, hrun, r1, r2, by rw [← put_eq]; exact h⟩
          · exact h.elim
        · exact h.elim
      · rename_i u xs hk
        obtain ⟨hj, h⟩ := h
        split at h
        · rename_i cs' hst
          split at h
          · rename_i x hd
            obtain ⟨cur, e, fz, hh, hfz, hcs, hcap, hBz, hcl, hc⟩ := rowCR hw hk hB (.inr fun e => by rw [e] at hj; simp at hj)
            have hcj := hc j _ (getD_of (dflt u) hj)
            obtain ⟨g1, g2, g3⟩ := hcj.store hst hv hone
            obtain ⟨d1, d2⟩ := dec_ok hd
            have hb := hcj.1
            have hrun := run_storeVar ht hh hfz hv hone hsz (show (j * B.sz + f) + va.cells.length ≤ cur.size by rw [hBz]; omega)
            have hset := heap_setCells v.cells.toList (j * B.sz + f) w cur hh
            have hlen2 : v.cells.toList.length = va.cells.length := by simpa using (hv.cells hone).1
            rw [enc_cells] at g3
            obtain ⟨r1, r2⟩ := hw.update hk hcl hB (same_setCells B.b v.cells.toList (j * B.sz + f) w) (fun b _ hne => heap_setCells_ne B.b _ _ _ b hne) (o' := .row u (xs.set j x))
              (.inr ⟨hBz, _, e, fz, hset, by rw [wrs_size]; exact hfz, by rw [wrs_size]; exact hcs, by simpa using hcap, fun q r c hq hr => by
                simp only [List.length_set] at hq
                rw [hBz]
                by_cases hqj : q = j
                · subst hqj
                  have hx : (xs.set q x).getD q (dflt u) = x := by simp [List.getD_eq_getElem?_getD, hj]
                  replace hr : (enc u ((xs.set q x).getD q (dflt u))).cells[r]? = some c := hr
                  rw [hx] at hr
                  obtain ⟨c', e1, e2⟩ := d2 r c hr
                  exact e2 _ _ _ (g1.2 r c' e1)
                · have hx : (xs.set j x).getD q (dflt u) = xs.getD q (dflt u) := by
                    simp only [List.getD_eq_getElem?_getD, List.getElem?_set, if_neg (fun e => hqj (Eq.symm e))]
                  replace hr : (enc u ((xs.set j x).getD q (dflt u))).cells[r]? = some c := hr
                  rw [hx] at hr
                  have hrl := lt_of_getL hr
                  rw [enc_cells] at hrl
                  have := (hc q _ (getD_of (dflt u) hq)).2 r c hr
                  rw [wrs_out]
                  · exact this
                  · rcases Nat.lt_or_gt_of_ne hqj with hlt | hgt
                    · have := Nat.mul_le_mul_right u.sz (show q + 1 ≤ j by omega)
                      rw [Nat.add_mul, Nat.one_mul] at this
                      omega
                    · have := Nat.mul_le_mul_right u.sz (show j + 1 ≤ q by omega)
                      rw [Nat.add_mul, Nat.one_mul] at this
                      omega⟩)
            exact ⟨_, _, hrun, r1, r2, by rw [← put_eq]; exact h⟩
          · exact h.elim
        · exact h.elim
      · rename_i xs hk
        obtain ⟨hj, h⟩ := h
        split at h
        · split at h
          · rename_i c hcc
            obtain ⟨cur, e, fz, hh, hfz, hcs, hcap, hBz, hcl, hc⟩ := rowACR hw hk hB
            have hl1 : va.cells.length = 1 := by rw [hcc]; rfl
            have hrun := run_storeVar ht hh hfz hv hone hsz (show (j * B.sz + 0) + va.cells.length ≤ cur.size by rw [hBz, hl1]; omega)
            have hset := heap_setCells v.cells.toList (j * B.sz + 0) w cur hh
            obtain ⟨v1, v2, v3⟩ := hv.cells hone
            have hlen2 : v.cells.toList.length = 1 := by rw [← hl1]; simpa using v1
            obtain ⟨r1, r2⟩ := hw.update hk hcl hB (same_setCells B.b v.cells.toList (j * B.sz + 0) w) (fun b _ hne => heap_setCells_ne B.b _ _ _ b hne) (o' := .rowA (xs.set j c))
              ⟨hBz, _, e, fz, hset, by rw [wrs_size]; exact hfz, by rw [wrs_size, Nat.mul_one]; exact hcs, by simpa using hcap, fun q r c' hq hr => by
                simp only [List.length_set] at hq
                rw [hBz]
                replace hr : [(xs.set j c).getD q .junk][r]? = some c' := hr
                cases r with
                | succ r => simp at hr
                | zero =>
                simp only [List.getElem?_cons_zero, Option.some.injEq] at hr
                subst hr
                by_cases hqj : q = j
                · subst hqj
                  have hx : (xs.set q c).getD q .junk = c := by simp [List.getD_eq_getElem?_getD, hj]
                  rw [hx]
                  have := v2 0 c (by rw [hcc]; rfl)
                  rw [show q * 1 + 0 = (q * 1 + 0) + 0 by omega, wrs_in _ _ _ _ (by omega) (by rw [hlen2]; omega)]
                  simpa [Array.getD_eq_getD_getElem?, List.getD_eq_getElem?_getD] using this
                · have hx : (xs.set j c).getD q .junk = xs.getD q .junk := by
                    simp only [List.getD_eq_getElem?_getD, List.getElem?_set, if_neg (fun e => hqj (Eq.symm e))]
                  rw [hx, wrs_out _ _ _ _ (by omega)]
                  have := hc q _ (getD_of .junk hq)
                  simpa using this⟩
            exact ⟨_, _, hrun, r1, r2, by rw [← put_eq]; exact h⟩
          · exact h.elim
        · exact h.elim
      · exact h.elim
    · exact h.elim
  · exact h.elim

end Go.Abs
end

section
set_option autoImplicit false
set_option linter.unusedVariables false
set_option linter.unusedSimpArgs false
namespace Go.Abs
open Go

theorem Same.alloc (w : World) (o : Obj) : Same w (w.alloc o) := ⟨rfl, rfl, rfl, by simp⟩
theorem Same.drew (w : World) : Same w w.drew := ⟨rfl, rfl, rfl, Nat.le_refl _⟩

theorem heap_alloc_lt (w : World) (o : Obj) (b : Nat) (h : b < w.heap.size) : (w.alloc o).heap[b]? = w.heap[b]? := by
  show (w.heap.push o)[b]? = _
  rw [Array.getElem?_push, if_neg (by omega)]
theorem heap_alloc_eq (w : World) (o : Obj) : (w.alloc o).heap[w.heap.size]? = some o := by
  show (w.heap.push o)[w.heap.size]? = _
  simp

/-- A new box of cells. -/
theorem new_box {IM : Imm} {bs : List Blk} {w : World} {H : AH} (hw : WR IM bs w H) {e : TypeId} {v : Value} {cs : List AV} (hs : v.cells.size = cs.length) (hne : cs.length ≠ 0)
    (hv : ∀ (j : Nat) (c : AV), cs[j]? = some c → VR IM bs (v.cells.getD j undef) c) :
    ∃ bs', WR IM bs' (w.alloc (.cells v.cells e)) (H ++ [.box cs]) ∧ Ext IM bs w H IM bs' (w.alloc (.cells v.cells e)) (H ++ [.box cs]) ∧
      VR IM bs' (.pointer (some ⟨w.heap.size, 0, none⟩)) (.ptr H.length 0 0) := by
  obtain ⟨h1, h2⟩ := hw.add (Same.alloc w (.cells v.cells e)) (fun b hb => heap_alloc_lt w _ b hb) (B := ⟨w.heap.size, cs.length, 1⟩) (fun _ => Nat.le_refl _) (o' := .box cs)
    ⟨rfl, hne, v.cells, e, (0, 0), heap_alloc_eq w _, .inl (Nat.le_refl _), by rw [hs, Nat.one_mul], Nat.le_refl _, fun i j c hi hc => by
      have : i = 0 := by omega
      subst this
      have := (hv j c hc).mono (Imm.le_refl IM) (List.prefix_append bs [⟨w.heap.size, cs.length, 1⟩])
      simpa using this⟩
  refine ⟨_, h1, h2, ?_⟩
  have := VR.ptr (IM := IM) (bs := bs ++ [⟨w.heap.size, cs.length, 1⟩]) H.length 0 0 ⟨w.heap.size, cs.length, 1⟩ (by rw [← hw.len]; simp)
  simpa using this

def boxA (v : AV) (H : AH) (K : AV → AH → Prop) : Prop :=
  match v.cells.all AV.one, v.cells with
  | true, _ :: _ => K (.ptr H.length 0 0) (H ++ [.box v.cells])
  | _, _ => False

theorem boxA_ok {P : Program} {v : AV} {H : AH} {K : AV → AH → Prop} {IM : Imm} {bs : List Blk} {w : World} {x : Value} {e : TypeId} (h : boxA v H K) (hw : WR IM bs w H) (hv : VR IM bs x v) :
    ∃ r w' bs' H' av, (Instr.box e x).run P w = .ok r w' ∧ VR IM bs' r av ∧ WR IM bs' w' H' ∧ Ext IM bs w H IM bs' w' H' ∧ K av H' := by
  unfold boxA at h
  split at h
  · rename_i c r ho hc
    obtain ⟨g1, g2, g3⟩ := hv.cells ho
    obtain ⟨bs', h1, h2, h3⟩ := new_box (e := e) hw g1 (by rw [hc]; simp) g2
    refine ⟨_, _, bs', _, _, ?_, h3, h1, h2, h⟩
    show (do pure (Value.pointer (some (← newRow e x.cells))) : Sem Value).run P w = _
    generalize x.cells = xc
    simp [newRow, go_sem]
  · exact h.elim

def allocA (C : Ctx) (e : TypeId) (H : AH) (K : AV → AH → Prop) : Prop :=
  match C.ty e with
  | some i => match Nat.beq i.zero.cells.length i.sz, i.zero.cells.all AV.one with
    | true, true => K (.ptr H.length 0 0) (H ++ [.box i.zero.cells])
    | _, _ => False
  | none => False

theorem allocA_ok {C : Ctx} {H : AH} {K : AV → AH → Prop} {IM : Imm} {bs : List Blk} {w : World} {e : TypeId} (h : allocA C e H K) (hw : WR IM bs w H) :
    ∃ r w' bs' H' av, (Instr.alloc e true (.tuple #[])).run C.P w = .ok r w' ∧ VR IM bs' r av ∧ WR IM bs' w' H' ∧ Ext IM bs w H IM bs' w' H' ∧ K av H' := by
  unfold allocA at h
  split at h
  · rename_i i hi
    split at h
    · rename_i hb ho
      obtain ⟨ht, hsz⟩ := C.tyok hi
      obtain ⟨inf, z, i1, i2, i3, i4, i5, i6, i7, i8⟩ := ht.inf
      have hz := i6 IM bs
      obtain ⟨g1, g2, g3⟩ := hz.cells ho
      obtain ⟨bs', h1, h2, h3⟩ := new_box (e := e) hw g1 (by rw [Nat.eq_of_beq_eq_true hb]; exact hsz) g2
      refine ⟨_, _, bs', _, _, ?_, h3, h1, h2, h⟩
      show (do let zero ← zeroValue e; pure (Value.pointer (some (← newVar e zero))) : Sem Value).run C.P w = _
      have hzv : (zeroValue e).run C.P w = .ok z w := by simp [zeroValue, typeInfo, go_sem, i1, i4]
      have hnv : (newVar e z).run C.P w = .ok ⟨w.heap.size, 0, none⟩ (w.alloc (.cells z.cells e)) := by
        unfold newVar
        generalize z.cells = zc
        simp [newRow, go_sem]
      simp [go_sem, hzv, hnv]
    · exact h.elim
  · exact h.elim

/-- A new row. -/
theorem new_row {IM : Imm} {bs : List Blk} {w w' : World} {H : AH} (hw : WR IM bs w H) {e : TypeId} {cur : Array Value} {fz : Nat × Nat} {u : U} {xs : List (El u)} {cap : Nat}
    (hs : Same w w') (hb : ∀ b, b < w.heap.size → w'.heap[b]? = w.heap[b]?) {nb : Nat} (hnb : w.heap.size ≤ nb) (hh : w'.heap[nb]? = some (.cells cur e fz)) (hfz : fz.2 ≤ fz.1 ∨ cur.size ≤ fz.1)
    (hcs : cur.size = cap * u.sz) (hle : xs.length ≤ cap)
    (hv : ∀ (i : Nat) (x : El u) (j : Nat) (c : AV), xs[i]? = some x → (enc u x).cells[j]? = some c → VR IM bs (cur.getD (i * u.sz + j) undef) c) :
    WR IM (bs ++ [⟨nb, u.sz, cap⟩]) w' (H ++ [.row u xs]) ∧ Ext IM bs w H IM (bs ++ [⟨nb, u.sz, cap⟩]) w' (H ++ [.row u xs]) ∧
      VR IM (bs ++ [⟨nb, u.sz, cap⟩]) (.slice (some ⟨nb, 0, none⟩) xs.length cap) (.ref H.length 0 xs.length) := by
  obtain ⟨h1, h2⟩ := hw.add hs hb (B := ⟨nb, u.sz, cap⟩) (fun _ => hnb) (o' := .row u xs)
    (.inr ⟨rfl, cur, e, fz, hh, hfz, hcs, hle, fun i j c hi hc => (hv i _ j c (getD_of (dflt u) hi) hc).mono (Imm.le_refl IM) (List.prefix_append bs _)⟩)
  refine ⟨h1, h2, ?_⟩
  have := VR.ref (IM := IM) (bs := bs ++ [⟨nb, u.sz, cap⟩]) H.length 0 xs.length ⟨nb, u.sz, cap⟩ (by rw [← hw.len]; simp) (Nat.ne_of_gt u.sz_pos) (by simpa using hle)
  simpa using this

theorem new_rowA {IM : Imm} {bs : List Blk} {w w' : World} {H : AH} (hw : WR IM bs w H) {e : TypeId} {cur : Array Value} {fz : Nat × Nat} {xs : List AV} {cap : Nat}
    (hs : Same w w') (hb : ∀ b, b < w.heap.size → w'.heap[b]? = w.heap[b]?) {nb : Nat} (hnb : w.heap.size ≤ nb) (hh : w'.heap[nb]? = some (.cells cur e fz)) (hfz : fz.2 ≤ fz.1 ∨ cur.size ≤ fz.1)
    (hcs : cur.size = cap) (hle : xs.length ≤ cap)
    (hv : ∀ (i : Nat) (x : AV), xs[i]? = some x → VR IM bs (cur.getD i undef) x) :
    WR IM (bs ++ [⟨nb, 1, cap⟩]) w' (H ++ [.rowA xs]) ∧ Ext IM bs w H IM (bs ++ [⟨nb, 1, cap⟩]) w' (H ++ [.rowA xs]) ∧
      VR IM (bs ++ [⟨nb, 1, cap⟩]) (.slice (some ⟨nb, 0, none⟩) xs.length cap) (.ref H.length 0 xs.length) := by
  obtain ⟨h1, h2⟩ := hw.add hs hb (B := ⟨nb, 1, cap⟩) (fun _ => hnb) (o' := .rowA xs)
    ⟨rfl, cur, e, fz, hh, hfz, by rw [hcs, Nat.mul_one], hle, fun i j c hi hc => by
      cases j with
      | succ j => simp at hc
      | zero =>
        simp only [List.getElem?_cons_zero, Option.some.injEq] at hc
        subst hc
        have := (hv i _ (getD_of .junk hi)).mono (Imm.le_refl IM) (List.prefix_append bs [⟨nb, 1, cap⟩])
        simpa using this⟩
  refine ⟨h1, h2, ?_⟩
  have := VR.ref (IM := IM) (bs := bs ++ [⟨nb, 1, cap⟩]) H.length 0 xs.length ⟨nb, 1, cap⟩ (by rw [← hw.len]; simp) (by simp) (by simpa using hle)
  simpa using this

def makeA (C : Ctx) (t : TypeId) (l c : AV) (H : AH) (K : AV → AH → Prop) : Prop :=
  match C.ty t with
  | some ⟨.slice e, _, _, _, _⟩ => match C.ty e, l, c with
    | some i, .int .i64 n, .int .i64 n' => match Nat.ble i.bytes 65536, i.u with
      | true, some u => Side (0 ≤ n ∧ n ≤ 1073741824 ∧ n' = n) (Alt (K (.ref H.length 0 n.toNat) (H ++ [.row u (List.replicate n.toNat (dflt u))])) (match Nat.beq i.sz 1, i.zero.one with
        | true, true => K (.ref H.length 0 n.toNat) (H ++ [.rowA (List.replicate n.toNat i.zero)])
        | _, _ => False))
      | true, none => Side (0 ≤ n ∧ n ≤ 1073741824 ∧ n' = n) (match Nat.beq i.sz 1, i.zero.one with
        | true, true => K (.ref H.length 0 n.toNat) (H ++ [.rowA (List.replicate n.toNat i.zero)])
        | _, _ => False)
      | _, _ => False
    | _, _, _ => False
  | _ => False

theorem TOk.slice {P : Program} {t : TypeId} {i : TI} {e : TypeId} (h : TOk P t i) (hd : i.d = .slice e) : P.underlying t = some (.slice e) := by
  obtain ⟨d, h1, h2⟩ := h.und
  rw [hd] at h2
  cases d <;> simp only [TDok] at h2
  subst h2
  exact h1

theorem run_make' {P : Program} {t e : TypeId} {inf : TypeInfo} {z : Value} {n : Nat} (ht : P.underlying t = some (.slice e)) (hi : P.info? e = some inf) (hz : inf.zero = some z)
    (hb : inf.bytes ≤ 65536) (hn : n ≤ 1073741824) (w : World) :
    (Instr.makeSlice t (.int .i64 (n : Int)) (.int .i64 (n : Int))).run P w = .ok (.slice (some ⟨w.heap.size, 0, none⟩) n n) (w.alloc (.cells (madeCells z.cells (n * inf.size)) e)) := by
  have hbn : inf.bytes * n ≤ 65536 * 1073741824 := Nat.mul_le_mul hb hn
  have hr := run_make (P := P) w t e inf z ht hi hz .i64 .i64 n n (by omega) (by omega) (by
    have h : ((inf.bytes * n : Nat) : Int) ≤ 281474976710656 := by omega
    rwa [Int.natCast_mul] at h) (by omega)
  simp only [Int.toNat_natCast] at hr
  exact hr

end Go.Abs
end
