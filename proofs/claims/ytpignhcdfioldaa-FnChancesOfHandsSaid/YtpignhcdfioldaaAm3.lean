import Derived.Test.YtpignhcdfioldaaAm2
import Derived.Deep.LoopGhost
import Derived.Orders

section
set_option autoImplicit false
set_option linter.unusedVariables false
set_option linter.unusedSimpArgs false
namespace Go.Abs
open Go

def VRs (IM : Imm) (bs : List Blk) (vs : Array Value) (as : List AV) : Prop :=
  vs.size = as.length ∧ ∀ (j : Nat) (c : AV), as[j]? = some c → VR IM bs (vs.getD j undef) c

def Enter (P : Program) (g : FuncId) : Prop := ∃ fn, P.funcs[g]? = some fn ∧ fn.body.isSome = true ∧ (fn.name == "runtime.NumGoroutine") = false

/-- What a call of a function comes to. -/
def EvR (C : Ctx) (g : FuncId) (as : List AV) (H : AH) (R : AV → AH → Prop) : Prop :=
  Enter C.P g ∧ ∀ IM bs w vs, WR IM bs w H → VRs IM bs vs as → Calls C.P g vs w fun e w' =>
    ∃ r IM' bs' H' av, e = .returned r ∧ VR IM' bs' r av ∧ WR IM' bs' w' H' ∧ Ext IM bs w H IM' bs' w' H' ∧ R av H'

def Ev (C : Ctx) (g : FuncId) (as : List AV) (H : AH) (v : AV) (H' : AH) : Prop := EvR C g as H fun v' H'' => v' = v ∧ H'' = H'

/-- A call, by its contract. -/
inductive CallA (C : Ctx) (g : FuncId) (as : List AV) (H : AH) (K : AV → AH → Prop) : Prop
  | mk (R : AV → AH → Prop) (h : EvR C g as H R) (k : ∀ v H', R v H' → K v H')

def opdL (env : Env) : List Operand → Option (List AV)
  | [] => some []
  | x :: r => match opd env x, opdL env r with
    | some a, some l => some (a :: l)
    | _, _ => none

def opdO (env : Env) : Option Operand → Option (Option AV)
  | none => some none
  | some x => match opd env x with
    | some a => some (some a)
    | none => none

def nilA (a : AV) (p : Prop) : Prop :=
  match a with
  | .ptr _ _ _ => p
  | .iptr _ _ _ _ => p
  | .fn _ _ => p
  | _ => False

def unA (op : UnOp) (a : AV) (K : AV → Prop) : Prop :=
  match op, a with
  | .not, .bool b => K (.bool (!b))
  | .neg, .int .i64 n => Ovf (inI64 (0 - n)) (K (.int .i64 (-n))) (K (.int .i64 (IntKind.i64.wrap (0 - n))))
  | _, _ => False

def builtinA (C : Ctx) (b : Builtin) (tys : List TypeId) (as : List AV) (H : AH) (K : AV → AH → Prop) : Prop :=
  match b, tys, as with
  | .len, [t], [x] => lenA C t x H fun v => K v H
  | .append, [t, tx], [s, x] => appendA C t tx s x H K
  | .max, _, [.int .i64 a, .int .i64 b] => K (.int .i64 (max a b)) H
  | .min, _, [.int .i64 a, .int .i64 b] => K (.int .i64 (min a b)) H
  | _, _, _ => False

/-- A heap, to be told out. -/
structure NormH (H : AH) (k : AH → Prop) : Prop where
  out : k H
def nH : AH → Option AH
  | [] => some []
  | o :: r => match nH r with
    | some r' => some (o :: r')
    | none => none
theorem nH_eq : ∀ H, nH H = some H
  | [] => rfl
  | o :: r => by unfold nH; rw [nH_eq r]
theorem NormH.go {H H2 : AH} {k : AH → Prop} (e : nH H = some H2) (h : k H2) : NormH H k := by
  rw [nH_eq] at e; cases e; exact ⟨h⟩
theorem NormH.eq (H : AH) (k : AH → Prop) : NormH H k = k H := propext ⟨fun h => h.out, fun h => ⟨h⟩⟩

/-- One operation that is no call of a Go function. -/
def opA (C : Ctx) (env : Env) (H : AH) (o : Op) (K : AV → AH → Prop) : Prop :=
  match o with
  | .move x => get1 (opd env x) fun a => K a H
  | .assign x => get1 (opd env x) fun a => K a H
  | .pick c x y => match opd env c with
    | some (.bool true) => get1 (opd env x) fun a => K a H
    | some (.bool false) => get1 (opd env y) fun a => K a H
    | _ => False
  | .alloc e => allocA C e H fun v H' => NormH H' (K v)
  | .box _ x => get1 (opd env x) fun a => boxA a H fun v H' => NormH H' (K v)
  | .build t ps => buildA C env t ps.toList fun a => K a H
  | .buildSlice t n ps => buildSliceA C env t n ps.toList H fun v H' => NormH H' (K v)
  | .load t x => get1 (opd env x) fun a => loadA C t a H fun v => K v H
  | .store t x y => get1 (opd env x) fun a => get1 (opd env y) fun v => storeA C t a v H fun H' => NormH H' (K .junk)
  | .nilCheck x => get1 (opd env x) fun a => nilA a (K a H)
  | .binOp op t x y _ => get1 (opd env x) fun a => get1 (opd env y) fun b => binX C op t a b fun v => K v H
  | .unOp op _ x => get1 (opd env x) fun a => unA op a fun v => K v H
  | .convert s d x => get1 (opd env x) fun a => convA C s d a H K
  | .makeFunc (.func f) first caps => match first.toList with
    | [] => get1 (opdL env caps.toList) fun l => K (.fn f l) H
    | _ :: _ => False
  | .makeSlice t l c => get1 (opd env l) fun a => get1 (opd env c) fun b => makeA C t a b H fun v H' => NormH H' (K v)
  | .slice t x lo hi mx => get1 (opd env x) fun a => get1 (opdO env lo) fun l => get1 (opdO env hi) fun h => get1 (opdO env mx) fun m => sliceA C t a l h m H fun v => K v H
  | .fieldAddr s x q => get1 (opd env x) fun a => fieldAddrA C s a q fun v => K v H
  | .field s x q => get1 (opd env x) fun a => fieldA C s a q fun v => K v H
  | .indexAddr t x i => get1 (opd env x) fun a => get1 (opd env i) fun b => idxAddr C t a b H fun v => K v H
  | .index t x i => get1 (opd env x) fun a => get1 (opd env i) fun b => indexA C t a b fun v => K v H
  | .extract x q => get1 (opd env x) fun a => extractA a q fun v => K v H
  | .call ⟨.builtin b, args, tys⟩ => get1 (opdL env args.toList) fun l => builtinA C b tys.toList l H fun v H' => NormH H' (K v)
  | _ => False

/-- One operation. -/
def stepA (C : Ctx) (env : Env) (H : AH) (o : Op) (K : AV → AH → Prop) : Prop :=
  match o with
  | .call ⟨.value f, args, _⟩ => get1 (opd env f) fun fv => match fv with
    | .fn g caps => get1 (opdL env args.toList) fun l => CallA C g (l ++ caps) H K
    | _ => False
  | o => opA C env H o K

def putA (n : Nat) (d : Option Tmp) (v : AV) (env : Env) (K : Env → Prop) : Prop :=
  match d with
  | none => K env
  | some t => match Nat.blt t n with
    | true => K ((t, v) :: env)
    | false => False

def runOps (C : Ctx) (n : Nat) (all : List Oper) (Q : Env → AH → Prop) : List Oper → Env → AH → Prop
  | [], env, H => Q env H
  | o :: r, env, H => match o.guard with
    | none => stepA C env H o.op fun v H' => putA n o.dst v env fun env' => runOps C n all Q r env' H'
    | some (j, want) => match lat all j with
      | some oj => match oj.dst with
        | some t => match look t env with
          | some (.bool v) => match want with
            | true => Br v (stepA C ((t, .bool true) :: env) H o.op fun v H' => putA n o.dst v ((t, .bool true) :: env) fun env' => runOps C n all Q r env' H')
                (putA n o.dst .junk ((t, .bool false) :: env) fun env' => runOps C n all Q r env' H)
            | false => Br v (putA n o.dst .junk ((t, .bool true) :: env) fun env' => runOps C n all Q r env' H)
                (stepA C ((t, .bool false) :: env) H o.op fun v H' => putA n o.dst v ((t, .bool false) :: env) fun env' => runOps C n all Q r env' H')
          | _ => False
        | none => False
      | none => False

/-- What is to be shown by another rule. -/
structure Stop (p : Prop) : Prop where
  out : p

def aw (C : Ctx) (n bm : Nat) : Code → APost → Env → AH → Prop
  | .skip, Q, env, H => Q .normal env H
  | .label _, Q, env, H => Q .normal env H
  | .region _ ops false, Q, env, H => runOps C n ops.toList (Q .normal) ops.toList env H
  | .seq x y, Q, env, H => aw C n bm x (thenA (aw C n bm y Q) Q) env H
  | .cond c x y, Q, env, H => match opd env c with
    | some (.bool b) => Br b (aw C n bm x Q env H) (aw C n bm y Q env H)
    | _ => False
  | .block id c, Q, env, H => aw C n bm c (inBlockA id Q) env H
  | .exit id, Q, env, H => Q (.exit id) env H
  | .ret, Q, env, H => Q .ret env H
  | c, Q, env, H => Stop (AWP C.P n bm c Q env H)

/-! ### Soundness -/

theorem opdL_ok {IM : Imm} {bs : List Blk} {a : Act} {env : Env} (h : EnvR IM bs a.tmps env) : ∀ (xs : List Operand) (l : List AV), opdL env xs = some l →
    xs.length = l.length ∧ ∀ (j : Nat) (c : AV), l[j]? = some c → ∃ v, (xs.map a.eval)[j]? = some v ∧ VR IM bs v c
  | [], l, hl => by cases hl; exact ⟨rfl, fun j c hc => by simp at hc⟩
  | x :: r, l, hl => by
    unfold opdL at hl
    split at hl
    · rename_i av l' hx hr
      cases hl
      obtain ⟨g1, g2⟩ := opdL_ok h r l' hr
      refine ⟨by simp [g1], fun j c hc => ?_⟩
      cases j with
      | zero => simp at hc; subst hc; exact ⟨_, rfl, opd_ok h hx⟩
      | succ j => simpa using g2 j c (by simpa using hc)
    · cases hl

theorem opdO_ok {IM : Imm} {bs : List Blk} {a : Act} {env : Env} (h : EnvR IM bs a.tmps env) {x : Option Operand} {r : Option AV} (hx : opdO env x = some r) : VRo IM bs (x.map a.eval) r := by
  cases x with
  | none => cases hx; trivial
  | some x =>
    unfold opdO at hx
    dsimp only at hx
    split at hx
    · rename_i av hav
      cases hx
      exact opd_ok h hav
    · cases hx

theorem VRs_of {IM : Imm} {bs : List Blk} {a : Act} {env : Env} (h : EnvR IM bs a.tmps env) {xs : Array Operand} {l : List AV} (hl : opdL env xs.toList = some l) : VRs IM bs (xs.map a.eval) l := by
  obtain ⟨h1, h2⟩ := opdL_ok h _ _ hl
  refine ⟨by simpa using h1, fun j c hc => ?_⟩
  obtain ⟨v, hv, hr⟩ := h2 j c hc
  have : (xs.map a.eval)[j]? = some v := by simpa using hv
  rw [Array.getD_eq_getD_getElem?, this]
  exact hr

theorem gives1 {P : Program} {IM : Imm} {bs : List Blk} {w : World} {H : AH} {s : Sem Value} {K : AV → AH → Prop} (hw : WR IM bs w H) (h : ∃ r av, s.run P w = .ok r w ∧ VR IM bs r av ∧ K av H) :
    Gives P (do pure (.value (← s))) IM bs w H K := by
  obtain ⟨r, av, h1, h2, h3⟩ := h
  refine .pure hw ?_ h2 h3
  rw [Sem.run_bind, h1]
  rfl

theorem gives2 {P : Program} {IM : Imm} {bs : List Blk} {w : World} {H : AH} {s : Sem Value} {K : AV → AH → Prop} (h : ∃ r w' bs' H' av, s.run P w = .ok r w' ∧ VR IM bs' r av ∧ WR IM bs' w' H' ∧ Ext IM bs w H IM bs' w' H' ∧ K av H') :
    Gives P (do pure (.value (← s))) IM bs w H K := by
  obtain ⟨r, w', bs', H', av, h1, h2, h3, h4, h5⟩ := h
  refine ⟨r, w', IM, bs', H', av, .inl ?_, h2, h3, h4, h5⟩
  rw [Sem.run_bind, h1]
  rfl

theorem builtinA_ok {C : Ctx} {b : Builtin} {tys : Array TypeId} {ty : TypeId} {consts : Array Bool} {vs : Array Value} {l : List AV} {H : AH} {K : AV → AH → Prop} {IM : Imm} {bs : List Blk} {w : World}
    (hk : builtinA C b tys.toList l H K) (hw : WR IM bs w H) (hvs : VRs IM bs vs l) : Gives C.P (builtin b tys ty consts vs) IM bs w H K := by
  have get : ∀ (j : Nat) (c : AV), l[j]? = some c → VR IM bs (vs.getD j undef) c := hvs.2
  have hsz := hvs.1
  unfold builtinA at hk
  split at hk
  · rename_i t x htys
    have hty : tys = #[t] := by cases tys with | mk q => simp at htys; subst htys; rfl
    obtain ⟨x', rfl⟩ : ∃ x', vs = #[x'] := by
      cases vs with
      | mk q => match q, hsz with
        | [y], _ => exact ⟨y, rfl⟩
    subst hty
    exact gives1 hw (lenA_ok hk (get 0 x rfl))
  · rename_i t tx s x htys
    have hty : tys = #[t, tx] := by cases tys with | mk q => simp at htys; subst htys; rfl
    obtain ⟨x', y', rfl⟩ : ∃ x' y', vs = #[x', y'] := by
      cases vs with
      | mk q => match q, hsz with
        | [y, z], _ => exact ⟨y, z, rfl⟩
    subst hty
    exact gives2 (appendA_ok hk hw (get 0 s rfl) (get 1 x rfl))
  · rename_i p q
    obtain ⟨x', y', rfl⟩ : ∃ x' y', vs = #[x', y'] := by
      cases vs with
      | mk q => match q, hsz with
        | [y, z], _ => exact ⟨y, z, rfl⟩
    have h1 := get 0 _ rfl
    have h2 := get 1 _ rfl
    simp only [Array.getD_eq_getD_getElem?] at h1 h2
    simp at h1 h2
    cases h1; cases h2
    refine gives1 hw ⟨.int .i64 (max p q), _, ?_, .int _ _, hk⟩
    simp [Builtin.max_, Builtin.max2]
    rw [Int.max_def]
    split <;> split <;> omega
  · rename_i p q
    obtain ⟨x', y', rfl⟩ : ∃ x' y', vs = #[x', y'] := by
      cases vs with
      | mk q => match q, hsz with
        | [y, z], _ => exact ⟨y, z, rfl⟩
    have h1 := get 0 _ rfl
    have h2 := get 1 _ rfl
    simp only [Array.getD_eq_getD_getElem?] at h1 h2
    simp at h1 h2
    cases h1; cases h2
    refine gives1 hw ⟨.int .i64 (min p q), _, ?_, .int _ _, hk⟩
    simp [Builtin.min_, Builtin.min2]
    rw [Int.min_def]
    split <;> split <;> omega
  · exact hk.elim

theorem opA_ok {C : Ctx} {env : Env} {H : AH} {o : Oper} {K : AV → AH → Prop} {IM : Imm} {bs : List Blk} {w : World} {a : Act} (h : opA C env H o.op K) (hw : WR IM bs w H) (he : EnvR IM bs a.tmps env) :
    Gives C.P (execOp a.eval o) IM bs w H K := by
  unfold opA at h
  simp only [NormH.eq] at h
  unfold execOp
  split at h <;> rename_i ho <;> simp only [ho]
  · obtain ⟨v, hv, hk⟩ := get1_some h
    exact .pure hw rfl (opd_ok he hv) hk
  · obtain ⟨v, hv, hk⟩ := get1_some h
    exact .pure hw rfl (opd_ok he hv) hk
  · rename_i c x y
    split at h
    · rename_i hc
      obtain ⟨v, hv, hk⟩ := get1_some h
      have hcv := opd_ok he hc
      refine .pure hw (v := a.eval x) ?_ (opd_ok he hv) hk
      generalize a.eval c = q at hcv
      cases hcv
      simp [asBool]
    · rename_i hc
      obtain ⟨v, hv, hk⟩ := get1_some h
      have hcv := opd_ok he hc
      refine .pure hw (v := a.eval y) ?_ (opd_ok he hv) hk
      generalize a.eval c = q at hcv
      cases hcv
      simp [asBool]
    · exact h.elim
  · exact gives2 (allocA_ok h hw)
  · obtain ⟨v, hv, hk⟩ := get1_some h
    exact gives2 (boxA_ok hk hw (opd_ok he hv))
  · exact gives1 hw (buildA_ok h he)
  · exact gives2 (buildSliceA_ok h hw he)
  · obtain ⟨v, hv, hk⟩ := get1_some h
    exact gives1 hw (loadA_ok hk hw (opd_ok he hv))
  · obtain ⟨v, hv, h2⟩ := get1_some h
    obtain ⟨v2, hv2, hk⟩ := get1_some h2
    obtain ⟨w', H', h1, h3, h4, h5⟩ := storeA_ok hk hw (opd_ok he hv) (opd_ok he hv2)
    refine ⟨undef, w', IM, bs, H', .junk, .inr ⟨?_, rfl⟩, .junk _, h3, h4, h5⟩
    rw [Sem.run_bind, h1]
    rfl
  · rename_i x
    obtain ⟨v, hv, hk⟩ := get1_some h
    have hvr := opd_ok he hv
    unfold nilA at hk
    split at hk
    · refine .pure hw (v := a.eval x) ?_ hvr hk
      generalize a.eval x = q at hvr
      cases hvr
      rfl
    · refine .pure hw (v := a.eval x) ?_ hvr hk
      generalize a.eval x = q at hvr
      cases hvr
      rfl
    · refine .pure hw (v := a.eval x) ?_ hvr hk
      generalize a.eval x = q at hvr
      cases hvr
      rfl
    · exact hk.elim
  · obtain ⟨v, hv, h2⟩ := get1_some h
    obtain ⟨v2, hv2, hk⟩ := get1_some h2
    exact gives1 hw (binX_ok hk (opd_ok he hv) (opd_ok he hv2))
  · rename_i op ty x
    obtain ⟨v, hv, hk⟩ := get1_some h
    have hvr := opd_ok he hv
    refine gives1 hw ?_
    generalize a.eval x = q at hvr
    unfold unA at hk
    split at hk
    · cases hvr
      exact ⟨_, _, rfl, .bool _, hk⟩
    · cases hvr
      rename_i n
      rcases hk with ⟨h1, h2⟩ | hk
      · refine ⟨_, _, ?_, .int .i64 (-n), h2⟩
        have := wrap_i64 h1
        simp [Op.unary, Op.intArith, go_sem] at this ⊢
        exact this
      · exact ⟨_, _, rfl, .int .i64 _, hk⟩
    · exact hk.elim
  · obtain ⟨v, hv, hk⟩ := get1_some h
    exact gives2 (convA_ok hk hw (opd_ok he hv))
  · rename_i f first caps
    split at h
    · rename_i hf
      obtain ⟨l, hl, hk⟩ := get1_some h
      have hvs := VRs_of he hl
      have hf' : first = #[] := by
        cases first with
        | mk l => simp at hf; subst hf; rfl
      subst hf'
      refine gives1 hw ⟨.func (.func f) #[] (caps.map a.eval), _, by simp [Instr.makeFunc], .fn f l _ hvs.1 hvs.2, hk⟩
    · exact h.elim
  · obtain ⟨v, hv, h2⟩ := get1_some h
    obtain ⟨v2, hv2, hk⟩ := get1_some h2
    exact gives2 (makeA_ok hk hw (opd_ok he hv) (opd_ok he hv2))
  · obtain ⟨v, hv, h2⟩ := get1_some h
    obtain ⟨l, hl, h3⟩ := get1_some h2
    obtain ⟨h', hh, h4⟩ := get1_some h3
    obtain ⟨m, hm, hk⟩ := get1_some h4
    exact gives1 hw (sliceA_ok hk hw (opd_ok he hv) (opdO_ok he hl) (opdO_ok he hh) (opdO_ok he hm))
  · obtain ⟨v, hv, hk⟩ := get1_some h
    exact gives1 hw (fieldAddrA_ok hk (opd_ok he hv))
  · obtain ⟨v, hv, hk⟩ := get1_some h
    exact gives1 hw (fieldA_ok hk (opd_ok he hv))
  · obtain ⟨v, hv, h2⟩ := get1_some h
    obtain ⟨v2, hv2, hk⟩ := get1_some h2
    exact gives1 hw (idxAddr_ok hk hw (opd_ok he hv) (opd_ok he hv2))
  · obtain ⟨v, hv, h2⟩ := get1_some h
    obtain ⟨v2, hv2, hk⟩ := get1_some h2
    exact gives1 hw (indexA_ok hk (opd_ok he hv) (opd_ok he hv2))
  · obtain ⟨v, hv, hk⟩ := get1_some h
    exact gives1 hw (extractA_ok hk (opd_ok he hv))
  · rename_i b args tys
    obtain ⟨l, hl, hk⟩ := get1_some h
    exact builtinA_ok (ty := o.type) (consts := _) hk hw (VRs_of he hl)
  · exact h.elim

end Go.Abs
end

section
set_option autoImplicit false
set_option linter.unusedVariables false
set_option linter.unusedSimpArgs false
namespace Go.Abs
open Go

theorem run_enter {P : Program} {w : World} {g : FuncId} {args : Array Value} (h : Enter P g) : (callFunc g args).run P w = .ok (.enter g args) w := by
  obtain ⟨fn, h1, h2, h3⟩ := h
  have h2' : fn.body.isNone = false := by cases hb : fn.body <;> simp_all
  simp only [callFunc, Sem.run_bind, run_program, Result.andThen_ok, h1, h3, h2', Bool.false_eq_true, if_false, Sem.run_pure]

theorem stepA_ok {C : Ctx} {env : Env} {H : AH} {o : Oper} {K : AV → AH → Prop} {IM : Imm} {bs : List Blk} {w : World} {a : Act} {next : Act → World → Prop} {Q : Exit → Act → World → Prop}
    (h : stepA C env H o.op K) (hw : WR IM bs w H) (he : EnvR IM bs a.tmps env)
    (hn : ∀ v w' IM' bs' H' av, VR IM' bs' v av → WR IM' bs' w' H' → Ext IM bs w H IM' bs' w' H' → K av H' → next (a.put o.dst v) w') : o.wp C.P a w next Q := by
  unfold stepA at h
  split at h
  · rename_i f args tys ho
    obtain ⟨fv, hf, h2⟩ := get1_some h
    have hfr := opd_ok he hf
    split at h2
    · rename_i g caps
      obtain ⟨l, hl, ⟨R, hev, hk⟩⟩ := get1_some h2
      have hvs := VRs_of he hl
      obtain ⟨henter, hc⟩ := hev
      unfold Oper.wp execOp
      simp only [ho]
      have hfe : ∃ cs, a.eval f = .func (.func g) #[] cs ∧ VRs IM bs cs caps := by
        generalize a.eval f = q at hfr
        cases hfr with
        | fn _ _ cs hs hv => exact ⟨cs, rfl, hs, hv⟩
      obtain ⟨cs, e1, e2⟩ := hfe
      have hrun : (do let d ← resolve a.eval ⟨.value f, args, tys⟩ o.type; invoke d.target d.args : Sem Next).run C.P w = .ok (.enter g (args.map a.eval ++ cs)) w := by
        have : (do let d ← resolve a.eval ⟨.value f, args, tys⟩ o.type; invoke d.target d.args : Sem Next).run C.P w = (callFunc g (#[] ++ args.map a.eval ++ cs)).run C.P w := by
          simp only [resolve, e1]
          rfl
        rw [this, Array.empty_append]
        exact run_enter henter
      rw [hrun]
      rw [Oper.upon_enter]
      have hargs : VRs IM bs (args.map a.eval ++ cs) (l ++ caps) := by
        refine ⟨by rw [Array.size_append, hvs.1, e2.1, List.length_append], fun j c hj => ?_⟩
        rw [Array.getD_eq_getD_getElem?]
        rcases Nat.lt_or_ge j l.length with hlt | hge
        · rw [List.getElem?_append_left hlt] at hj
          rw [Array.getElem?_append_left (by rw [hvs.1]; exact hlt)]
          have := hvs.2 j c hj
          rwa [Array.getD_eq_getD_getElem?] at this
        · rw [List.getElem?_append_right hge] at hj
          rw [Array.getElem?_append_right (by rw [hvs.1]; exact hge), hvs.1]
          have := e2.2 _ c hj
          rwa [Array.getD_eq_getD_getElem?] at this
      refine (hc IM bs w _ hw hargs).mono ?_
      rintro e w' ⟨r, IM', bs', H', av, rfl, h1, h3, h4, h5⟩
      exact hn r w' IM' bs' H' av h1 h3 h4 (hk av H' h5)
    · exact h2.elim
  · obtain ⟨v, w', IM', bs', H', av, hr, h1, h2, h3, h4⟩ := opA_ok h hw he
    unfold Oper.wp
    rcases hr with hr | ⟨hr, rfl⟩
    · rw [hr, Oper.upon_value]; exact hn v w' IM' bs' H' av h1 h2 h3 h4
    · rw [hr, Oper.upon_skip]; exact hn undef w' IM' bs' H' av h1 h2 h3 h4

theorem EnvR.mono {IM IM' : Imm} {bs bs' : List Blk} {tmps : Array Value} {env : Env} (h : EnvR IM bs tmps env) (hI : IM.le IM') (hb : bs <+: bs') : EnvR IM' bs' tmps env :=
  fun t a ht => (h t a ht).mono hI hb

theorem EnvR.put {IM : Imm} {bs : List Blk} {a : Act} {env : Env} {t : Nat} {v : Value} {av : AV} (h : EnvR IM bs a.tmps env) (hv : VR IM bs v av) (ht : t < a.tmps.size) :
    EnvR IM bs (a.tmps.setIfInBounds t v) ((t, av) :: env) := by
  intro s x hs
  unfold look at hs
  split at hs
  · rename_i e
    subst e
    cases hs
    simpa [Array.getD_eq_getD_getElem?, ht] using hv
  · rename_i e
    have := h s x hs
    simp only [Array.getD_eq_getD_getElem?, Array.getElem?_setIfInBounds] at this ⊢
    rw [if_neg (fun q => e q.symm)]
    exact this

/-- A fact that is known of a slot may be told anew. -/
theorem EnvR.again {IM : Imm} {bs : List Blk} {tmps : Array Value} {env : Env} {t : Nat} {av : AV} (h : EnvR IM bs tmps env) (hv : VR IM bs (tmps.getD t undef) av) : EnvR IM bs tmps ((t, av) :: env) := by
  intro s x hs
  unfold look at hs
  split at hs
  · rename_i e; subst e; cases hs; exact hv
  · exact h s x hs

def Post (n bm : Nat) (IM : Imm) (bs : List Blk) (w : World) (H : AH) (Q : APost) : Exit → Act → World → Prop :=
  fun e a' w' => ∃ env' H' IM' bs', Q e env' H' ∧ a'.tmps.size = n ∧ a'.defers = [] ∧ WR IM' bs' w' H' ∧ EnvR IM' bs' a'.tmps env' ∧ ExtM bm IM bs w H IM' bs' w' H'

theorem putA_ok {n : Nat} {d : Option Tmp} {av : AV} {env : Env} {K : Env → Prop} {IM : Imm} {bs : List Blk} {a : Act} {v : Value} (h : putA n d av env K) (hs : a.tmps.size = n) (hd : a.defers = [])
    (he : EnvR IM bs a.tmps env) (hv : VR IM bs v av) : ∃ env', K env' ∧ (a.put d v).tmps.size = n ∧ (a.put d v).defers = [] ∧ EnvR IM bs (a.put d v).tmps env' := by
  unfold putA at h
  split at h
  · exact ⟨env, h, hs, hd, he⟩
  · rename_i t
    split at h
    · rename_i hb
      have hlt : t < a.tmps.size := by rw [hs]; simpa [Nat.blt_eq] using hb
      refine ⟨(t, av) :: env, h, by simpa [Act.put] using hs, hd, ?_⟩
      exact he.put hv hlt
    · exact h.elim

theorem runOps_ok {C : Ctx} {n bm : Nat} {ops : Array Oper} {Q0 : APost} {IM0 : Imm} {bs0 : List Blk} {w0 : World} {H0 : AH} : ∀ (l : List Oper) (env : Env) (H : AH) (IM : Imm) (bs : List Blk) (w : World) (a : Act),
    runOps C n ops.toList (Q0 .normal) l env H → a.tmps.size = n → a.defers = [] → WR IM bs w H → EnvR IM bs a.tmps env → ExtM bm IM0 bs0 w0 H0 IM bs w H →
    wpList C.P ops (Post n bm IM0 bs0 w0 H0 Q0) l a w
  | [], env, H, IM, bs, w, a, h, hs, hd, hw, he, hx => ⟨env, H, IM, bs, h, hs, hd, hw, he, hx⟩
  | o :: r, env, H, IM, bs, w, a, h, hs, hd, hw, he, hx => by
    have go : ∀ env1, EnvR IM bs a.tmps env1 → stepA C env1 H o.op (fun v H' => putA n o.dst v env1 fun env' => runOps C n ops.toList (Q0 .normal) r env' H') →
        o.wp C.P a w (wpList C.P ops (Post n bm IM0 bs0 w0 H0 Q0) r) (Post n bm IM0 bs0 w0 H0 Q0) := by
      intro env1 he1 h1
      refine stepA_ok h1 hw he1 ?_
      intro v w' IM' bs' H' av hv hw' hx' hk
      obtain ⟨env', k1, k2, k3, k4⟩ := putA_ok hk hs hd (he1.mono hx'.imm hx'.pre) hv
      exact runOps_ok r env' H' IM' bs' w' _ k1 k2 k3 hw' k4 (hx.transE hx')
    have skip : ∀ env1, EnvR IM bs a.tmps env1 → putA n o.dst .junk env1 (fun env' => runOps C n ops.toList (Q0 .normal) r env' H) →
        wpList C.P ops (Post n bm IM0 bs0 w0 H0 Q0) r (a.put o.dst undef) w := by
      intro env1 he1 h1
      obtain ⟨env', k1, k2, k3, k4⟩ := putA_ok h1 hs hd he1 (VR.junk undef)
      exact runOps_ok r env' H IM bs w _ k1 k2 k3 hw k4 hx
    unfold runOps at h
    unfold wpList
    split at h
    · rename_i hg
      rw [if_pos (by simp [Region.wanted, hg])]
      exact .inl (go env he h)
    · rename_i j want hg
      split at h
      · rename_i oj hj
        split at h
        · rename_i t ht
          split at h
          · rename_i v hv
            have hvr := he t _ hv
            have hval : a.tmps.getD t undef = .bool v := by
              generalize a.tmps.getD t undef = q at hvr
              cases hvr; rfl
            have htl : t < a.tmps.size := by
              rcases Nat.lt_or_ge t a.tmps.size with h | h
              · exact h
              · rw [Array.getD_eq_getD_getElem?, Array.getElem?_eq_none h] at hval
                cases hval
            have hy : yielded ops a.tmps j = some v := by
              rw [lat_eq] at hj
              have hj' : ops[j]? = some oj := by simpa using hj
              have ht' : a.tmps[t]? = some (.bool v) := by
                rw [Array.getD_eq_getD_getElem?, Array.getElem?_eq_getElem htl] at hval
                rw [Array.getElem?_eq_getElem htl]
                simpa using hval
              simp [yielded, hj', ht, ht']
            split at h
            · cases v with
              | true =>
                rw [if_pos (by simp [Region.wanted, hg, hy])]
                exact .inl (go _ (he.again (by rw [hval]; exact .bool _)) (h.1 rfl))
              | false =>
                rw [if_neg (by simp [Region.wanted, hg, hy])]
                exact skip _ (he.again (by rw [hval]; exact .bool _)) (h.2 rfl)
            · cases v with
              | false =>
                rw [if_pos (by simp [Region.wanted, hg, hy])]
                exact .inl (go _ (he.again (by rw [hval]; exact .bool _)) (h.2 rfl))
              | true =>
                rw [if_neg (by simp [Region.wanted, hg, hy])]
                exact skip _ (he.again (by rw [hval]; exact .bool _)) (h.1 rfl)
          · exact h.elim
        · exact h.elim
      · exact h.elim

theorem AWP.region {C : Ctx} {n bm id : Nat} {ops : Array Oper} {Q : APost} {env : Env} {H : AH} (h : runOps C n ops.toList (Q .normal) ops.toList env H) : AWP C.P n bm (.region id ops false) Q env H := by
  intro IM bs w a h1 h2 h3 h4
  exact wp_region_list (runOps_ok ops.toList env H IM bs w a h h1 h2 h3 h4 (ExtM.refl _ _ _ _))

theorem AWP.label {P : Program} {n bm l : Nat} {Q : APost} {env : Env} {H : AH} (h : Q .normal env H) : AWP P n bm (.label l) Q env H :=
  fun IM bs _ _ h1 h2 h3 h4 => wp_label ⟨env, H, IM, bs, h, h1, h2, h3, h4, ExtM.refl _ _ _ _⟩

theorem thenA_mono {K K' : Env → AH → Prop} {Q : APost} (h : ∀ env H, K env H → K' env H) : ∀ e env H, thenA K Q e env H → thenA K' Q e env H := by
  intro e env H hq
  cases e <;> first | exact h _ _ hq | exact hq

theorem aw_sound {C : Ctx} {n bm : Nat} : ∀ (c : Code) (Q : APost) (env : Env) (H : AH), aw C n bm c Q env H → AWP C.P n bm c Q env H
  | .skip, Q, env, H, h => AWP.skip h
  | .label _, Q, env, H, h => AWP.label h
  | .region _ ops false, Q, env, H, h => AWP.region h
  | .region _ ops true, Q, env, H, h => h.out
  | .seq x y, Q, env, H, h => AWP.seq ((aw_sound x _ env H h).mono (thenA_mono fun env' H' h' => aw_sound y Q env' H' h'))
  | .cond c x y, Q, env, H, h => by
    unfold aw at h
    split at h
    · rename_i b hb
      intro IM bs w a h1 h2 h3 h4
      have hv := opd_ok h4 hb
      have he : a.eval c = .bool b := by
        generalize a.eval c = q at hv
        cases hv; rfl
      cases b with
      | true => exact wp_cond_true he (aw_sound x Q env H (h.1 rfl) IM bs w a h1 h2 h3 h4)
      | false => exact wp_cond_false he (aw_sound y Q env H (h.2 rfl) IM bs w a h1 h2 h3 h4)
    · exact h.elim
  | .block id c, Q, env, H, h => AWP.block (aw_sound c _ env H h)
  | .exit id, Q, env, H, h => AWP.exit h
  | .ret, Q, env, H, h => AWP.ret h
  | .loop c, Q, env, H, h => h.out
  | .rangeFunc _ _ _ _, Q, env, H, h => h.out
  | .scope _, Q, env, H, h => h.out
  | .goto _, Q, env, H, h => h.out
  | .refuse _, Q, env, H, h => h.out

/-- Code that is still to be walked. -/
structure AwM (C : Ctx) (n bm : Nat) (c : Code) (Q : APost) (env : Env) (H : AH) : Prop where
  out : AWP C.P n bm c Q env H

end Go.Abs
end

section
set_option autoImplicit false
set_option linter.unusedVariables false
set_option linter.unusedSimpArgs false
namespace Go.Abs
open Go

/-- What may be said anew of an end: objects forgotten, rows frozen. -/
def Conv (base : Nat) (v : AV) (H : AH) (v' : AV) (H' : AH) : Prop :=
  ∀ IM bs w r, WR IM bs w H → VR IM bs r v → base ≤ H.length → ∃ IM' bs', WR IM' bs' w H' ∧ VR IM' bs' r v' ∧ (∀ IM0 bs0 w0 H0, bs0.length = H0.length → H0.length = base → Ext IM0 bs0 w0 H0 IM bs w H → Ext IM0 bs0 w0 H0 IM' bs' w H') ∧ base ≤ H'.length

theorem Conv.refl (base : Nat) (v : AV) (H : AH) : Conv base v H v H := fun IM bs w r h1 h2 h3 => ⟨IM, bs, h1, h2, fun _ _ _ _ _ _ h => h, h3⟩
theorem Conv.trans {base : Nat} {v v' v'' : AV} {H H' H'' : AH} (a : Conv base v H v' H') (b : Conv base v' H' v'' H'') : Conv base v H v'' H'' := by
  intro IM bs w r h1 h2 h3
  obtain ⟨IM', bs', g1, g2, g3, g4⟩ := a IM bs w r h1 h2 h3
  obtain ⟨IM2, bs2, f1, f2, f3, f4⟩ := b IM' bs' w r g1 g2 g4
  exact ⟨IM2, bs2, f1, f2, fun IM0 bs0 w0 H0 e1 e2 h => f3 IM0 bs0 w0 H0 e1 e2 (g3 IM0 bs0 w0 H0 e1 e2 h), f4⟩

def undH (m : Nat) : AH → Bool
  | [] => true
  | o :: r => o.und m && undH m r

theorem undH_mem {m : Nat} {H : AH} (h : undH m H = true) : ∀ o ∈ H, o.und m = true := by
  induction H with
  | nil => intro o ho; cases ho
  | cons a r ih =>
    rw [undH, Bool.and_eq_true] at h
    intro o ho
    cases ho with
    | head => exact h.1
    | tail _ ho => exact ih h.2 o ho

/-- What is made beyond is forgotten. -/
theorem Conv.drop {base : Nat} {v : AV} {H : AH} (m : Nat) (hm : base ≤ m) (hmH : m ≤ H.length) (hv : v.und m = true) (hH : undH m (H.take m) = true) : Conv base v H v (H.take m) := by
  intro IM bs w r h1 h2 h3
  refine ⟨IM, bs.take m, h1.take m (undH_mem hH), h2.take m hv, fun IM0 bs0 w0 H0 e1 e2 h => h.take e1 m (by omega), by rw [List.length_take]; omega⟩

/-- A row of the call's own is told as one that does not turn. -/
theorem Conv.freeze {base : Nat} {H : AH} {k : Nat} {u : U} {xs : List (El u)} {n : Nat} (hk : H[k]? = some (.row u xs)) (hn : n ≤ xs.length) : Conv base (.ref k 0 n) H (.isl u (xs.take n)) (H.set k .dead) := by
  intro IM bs w r h1 h2 h3
  obtain ⟨IM', g1, g2, g3⟩ := h1.freeze hk hn
  exact ⟨IM', bs, g1, g3 r h2, fun IM0 bs0 w0 H0 _ _ h => h.trans g2, by simpa using h3⟩

theorem EvR.conv {C : Ctx} {g : FuncId} {as : List AV} {H : AH} {R R' : AV → AH → Prop} (h : EvR C g as H R) (hc : ∀ v H', R v H' → H.length ≤ H'.length → ∃ v2 H2, Conv H.length v H' v2 H2 ∧ R' v2 H2) : EvR C g as H R' := by
  refine ⟨h.1, fun IM bs w vs hw hvs => (h.2 IM bs w vs hw hvs).mono ?_⟩
  rintro e w' ⟨r, IM', bs', H', av, he, h1, h2, h3, h4⟩
  have hle : H.length ≤ H'.length := by
    have := h3.pre.length_le
    rw [hw.len, h2.len] at this
    exact this
  obtain ⟨v2, H2, c1, c2⟩ := hc av H' h4 hle
  obtain ⟨IM2, bs2, g1, g2, g3, _⟩ := c1 IM' bs' w' r h2 h1 hle
  exact ⟨r, IM2, bs2, H2, v2, he, g2, g1, g3 IM bs w H hw.len rfl h3, c2⟩

def parE : Nat → List AV → Env
  | _, [] => []
  | n, a :: r => (n, a) :: parE (n + 1) r

theorem parE_look : ∀ (as : List AV) (n t : Nat) (a : AV), look t (parE n as) = some a → n ≤ t ∧ as[t - n]? = some a
  | [], n, t, a, h => by cases h
  | b :: r, n, t, a, h => by
    unfold parE look at h
    split at h
    · rename_i e; subst e; cases h; exact ⟨Nat.le_refl _, by simp⟩
    · obtain ⟨h1, h2⟩ := parE_look r (n + 1) t a h
      refine ⟨by omega, ?_⟩
      rw [show t - n = (t - (n + 1)) + 1 by omega, List.getElem?_cons_succ]
      exact h2

/-- The results: told by the slots. -/
def resK (C : Ctx) (env : Env) (H : AH) : List ResultVar → (List AV → Prop) → Prop
  | [], k => k []
  | .tmp t :: r, k => get1 (look t env) fun a => resK C env H r fun l => k (a :: l)
  | .cell t ty :: r, k => get1 (look t env) fun p => loadA C ty p H fun a => resK C env H r fun l => k (a :: l)

def resV : List AV → AV
  | [a] => a
  | l => .tup l

def retQ (C : Ctx) (rs : List ResultVar) (R : AV → AH → Prop) : APost
  | .ret, env, H => resK C env H rs fun l => R (resV l) H
  | .normal, env, H => resK C env H rs fun l => R (resV l) H
  | _, _, _ => False

def resF (tmps : Array Value) : ResultVar → Sem Value
  | .tmp t => pure (tmps.getD t undef)
  | .cell a t => do loadVar t (← asAddr (tmps.getD a undef))

theorem resK_ok {C : Ctx} {IM : Imm} {bs : List Blk} {w : World} {H : AH} {tmps : Array Value} {env : Env} (h : EnvR IM bs tmps env) (hw : WR IM bs w H) : ∀ (rs : List ResultVar) (k : List AV → Prop), resK C env H rs k →
    ∃ (vs : List Value) (l : List AV), (rs.mapM (resF tmps)).run C.P w = .ok vs w ∧ vs.length = l.length ∧ (∀ (j : Nat) (c : AV), l[j]? = some c → VR IM bs (vs.getD j undef) c) ∧ k l
  | [], k, hk => ⟨[], [], rfl, rfl, fun j c hc => by simp at hc, hk⟩
  | .tmp t :: r, k, hk => by
    obtain ⟨a, ha, hk⟩ := get1_some hk
    obtain ⟨vs, l, g1, g2, g3, g4⟩ := resK_ok h hw r _ hk
    refine ⟨tmps.getD t undef :: vs, a :: l, ?_, by simp [g2], fun j c hc => ?_, g4⟩
    · rw [List.mapM_cons, Sem.run_bind]
      simp only [resF, Sem.run_pure, Result.andThen_ok]
      rw [Sem.run_bind, g1]
      rfl
    · cases j with
      | zero => simp at hc; subst hc; exact h t _ ha
      | succ j => simpa using g3 j c (by simpa using hc)
  | .cell t ty :: r, k, hk => by
    obtain ⟨p, hp, hk0⟩ := get1_some hk
    obtain ⟨v, a, hr, ha, hk⟩ := loadA_ok hk0 hw (h t p hp)
    obtain ⟨vs, l, g1, g2, g3, g4⟩ := resK_ok h hw r _ hk
    refine ⟨v :: vs, a :: l, ?_, by simp [g2], fun j c hc => ?_, g4⟩
    · have hr' : (resF tmps (.cell t ty)).run C.P w = .ok v w := by
        have hpv := h t p hp
        have : ∃ a, tmps.getD t undef = .pointer (some a) := by
          generalize tmps.getD t undef = q at hpv
          unfold loadA at hk0
          split at hk0
          · cases hpv; exact ⟨_, rfl⟩
          · cases hpv; exact ⟨_, rfl⟩
          · exact hk0.elim
        obtain ⟨q, hq⟩ := this
        unfold resF
        dsimp only
        rw [hq] at hr ⊢
        exact hr
      rw [List.mapM_cons, Sem.run_bind, hr']
      simp only [Result.andThen_ok]
      rw [Sem.run_bind, g1]
      rfl
    · cases j with
      | zero => simp at hc; subst hc; exact ha
      | succ j => simpa using g3 j c (by simpa using hc)

theorem results_ok {C : Ctx} {IM : Imm} {bs : List Blk} {w : World} {H : AH} {tmps : Array Value} {env : Env} {fn : Func} (h : EnvR IM bs tmps env) (hw : WR IM bs w H) {k : List AV → Prop} (hk : resK C env H fn.results.toList k) :
    ∃ v l, (results fn tmps).run C.P w = .ok v w ∧ VR IM bs v (resV l) ∧ k l := by
  obtain ⟨vs, l, g1, g2, g3, g4⟩ := resK_ok h hw _ _ hk
  have hm : (fn.results.mapM (resF tmps)).run C.P w = .ok vs.toArray w := by
    rw [← Array.toArray_toList (xs := fn.results), List.mapM_toArray]
    rw [Sem.run_map, g1]
    rfl
  have hr : (results fn tmps).run C.P w = .ok (if h : vs.toArray.size = 1 then vs.toArray[0] else .tuple vs.toArray) w := by
    show (do let vs ← fn.results.mapM (resF tmps); pure (if h : vs.size = 1 then vs[0] else .tuple vs) : Sem Value).run C.P w = _
    rw [Sem.run_bind, hm]
    rfl
  refine ⟨_, l, hr, ?_, g4⟩
  have get : ∀ (j : Nat) (c : AV), l[j]? = some c → VR IM bs (vs.toArray.getD j undef) c := by
    intro j c hc
    have := g3 j c hc
    simpa [Array.getD_eq_getD_getElem?, List.getD_eq_getElem?_getD] using this
  match l, vs, g2, get with
  | [], [], _, get => exact .tup [] #[] rfl get
  | [a], [v], _, get =>
    have := get 0 a rfl
    simpa [resV] using this
  | a :: b :: l, u :: v :: vs, g2, get =>
    rw [dif_neg (by simp)]
    exact .tup _ _ (by simpa using g2) get

theorem ev_of_aw {C : Ctx} {g : FuncId} {fn : Func} {c : Code} {as : List AV} {H : AH} {R : AV → AH → Prop} (hf : C.P.funcs[g]? = some fn) (hb : fn.body = some c) (hn : (fn.name == "runtime.NumGoroutine") = false)
    (hle : Nat.ble as.length fn.ntmps = true) (h : AwM C fn.ntmps H.length c (retQ C fn.results.toList R) (parE 0 as) H) : EvR C g as H R := by
  refine ⟨⟨fn, hf, by rw [hb]; rfl, hn⟩, fun IM bs w vs hw hvs => ?_⟩
  refine calls_of_wp hf hb ?_
  have hs := hvs.1
  have hle' := Nat.le_of_ble_eq_true hle
  have hsz : (vs ++ Array.replicate (fn.ntmps - vs.size) undef).size = fn.ntmps := by rw [Array.size_append, Array.size_replicate]; omega
  have henv : EnvR IM bs (vs ++ Array.replicate (fn.ntmps - vs.size) undef) (parE 0 as) := by
    intro t a ht
    obtain ⟨_, h2⟩ := parE_look as 0 t a ht
    rw [Nat.sub_zero] at h2
    have := hvs.2 t a h2
    have htl := lt_of_getL h2
    rw [Array.getD_eq_getD_getElem?] at this ⊢
    rw [Array.getElem?_append_left (by omega)]
    exact this
  refine wp_mono (h.out IM bs w { tmps := vs ++ Array.replicate (fn.ntmps - vs.size) undef, defers := [] } hsz rfl hw henv) ?_
  rintro e a' w' ⟨env', H', IM', bs', q, q1, q2, q3, q4, q5⟩
  cases e with
  | normal =>
    obtain ⟨v, l, r1, r2, hR⟩ := results_ok (fn := fn) q4 q3 q
    exact ⟨q2, v, r1, v, IM', bs', H', _, rfl, r2, q3, q5.full (by rw [hw.len]; exact Nat.le_refl _), hR⟩
  | ret =>
    obtain ⟨v, l, r1, r2, hR⟩ := results_ok (fn := fn) q4 q3 q
    exact ⟨q2, v, r1, v, IM', bs', H', _, rfl, r2, q3, q5.full (by rw [hw.len]; exact Nat.le_refl _), hR⟩
  | _ => exact q.elim

end Go.Abs
end

section
set_option autoImplicit false
set_option linter.unusedVariables false
set_option linter.unusedSimpArgs false
namespace Go.Abs
open Go

/-- The first telling holds in the second: decided entry by entry. -/
def leE : Env → Env → Prop
  | [], _ => True
  | (t, a) :: r, env => look t env = some a ∧ leE r env

theorem leE_le : ∀ (e env : Env), leE e env → Env.le e env
  | [], env, _ => fun t a h => by cases h
  | (s, b) :: r, env, h => fun t a ht => by
    unfold look at ht
    split at ht
    · rename_i e; subst e; cases ht; exact h.1
    · exact leE_le r env h.2 t a ht

def undE (m : Nat) : Env → Bool
  | [] => true
  | (_, a) :: r => a.und m && undE m r

theorem undE_look {m : Nat} : ∀ {e : Env}, undE m e = true → ∀ t a, look t e = some a → a.und m = true
  | [], _, t, a, h => by cases h
  | (s, b) :: r, hu, t, a, h => by
    rw [undE, Bool.and_eq_true] at hu
    unfold look at h
    split at h
    · cases h; exact hu.1
    · exact undE_look hu.2 t a h

def takeH : Nat → AH → AH
  | 0, _ => []
  | _ + 1, [] => []
  | n + 1, o :: r => o :: takeH n r
theorem takeH_eq : ∀ (n : Nat) (H : AH), takeH n H = H.take n
  | 0, H => by simp [takeH]
  | n + 1, [] => by simp [takeH]
  | n + 1, o :: r => by simp [takeH, takeH_eq n r]

/-- What the end of a round owes: the telling at a later state. -/
def Back {α : Type} (I : α → Prop) (E : α → Env) (HH : α → AH) (μ : α → Nat) (s : α) (env' : Env) (H' : AH) : Prop :=
  ∃ s', I s' ∧ μ s' < μ s ∧ leE (E s') env' ∧ takeH (HH s').length H' = HH s' ∧ (HH s).length ≤ (HH s').length ∧ undE (HH s').length (E s') = true ∧ undH (HH s').length (HH s') = true

theorem AWP.loop {P : Program} {n bm : Nat} {c : Code} {Q : APost} {env : Env} {H : AH} {α : Type} (I : α → Prop) (E : α → Env) (HH : α → AH) (μ : α → Nat) (s0 : α) (hI : I s0) (hE : leE (E s0) env) (hH : H = HH s0)
    (round : ∀ s, I s → (HH s0).length ≤ (HH s).length → AWP P n bm c (thenA (Back I E HH μ s) Q) (E s) (HH s)) : AWP P n bm (.loop c) Q env H := by
  subst hH
  intro IM bs w a h1 h2 h3 h4
  refine wp_loop_ghost (fun k a' w' => ∃ s IM' bs', I s ∧ μ s = k ∧ (HH s0).length ≤ (HH s).length ∧ a'.tmps.size = n ∧ a'.defers = [] ∧ WR IM' bs' w' (HH s) ∧ EnvR IM' bs' a'.tmps (E s) ∧ ExtM bm IM bs w (HH s0) IM' bs' w' (HH s)) (μ s0)
    ⟨s0, IM, bs, hI, rfl, Nat.le_refl _, h1, h2, h3, h4.weaken (leE_le _ _ hE), ExtM.refl _ _ _ _⟩ ?_
  rintro k a' w' ⟨s, IM', bs', hs, rfl, g1, g2, g3, g4, g5, g6⟩
  refine wp_mono (round s hs g1 IM' bs' w' a' g2 g3 g4 g5) ?_
  rintro e a2 w2 ⟨env2, H2, IM2, bs2, q, q1, q2, q3, q4, q5⟩
  cases e with
  | normal =>
    obtain ⟨s', i1, i2, i3, i4, i5, i6, i7⟩ := q
    rw [takeH_eq] at i4
    have hlen : (HH s').length ≤ H2.length := by
      have := congrArg List.length i4
      rw [List.length_take] at this
      omega
    refine ⟨μ s', i2, s', IM2, bs2.take (HH s').length, i1, rfl, by omega, q1, q2, ?_, ?_, ?_⟩
    · have := q3.take (HH s').length (by rw [i4]; exact undH_mem i7)
      rwa [i4] at this
    · intro t x hx
      exact (q4 t x (leE_le _ _ i3 t x hx)).take _ (undE_look i6 t x hx)
    · have := (g6.trans q5).take h3.len (HH s').length (by omega)
      rwa [i4] at this
  | exit id => exact ⟨env2, H2, IM2, bs2, q, q1, q2, q3, q4, g6.trans q5⟩
  | goto l => exact ⟨env2, H2, IM2, bs2, q, q1, q2, q3, q4, g6.trans q5⟩
  | ret => exact ⟨env2, H2, IM2, bs2, q, q1, q2, q3, q4, g6.trans q5⟩
  | panic ch => exact ⟨env2, H2, IM2, bs2, q, q1, q2, q3, q4, g6.trans q5⟩
  | outgrown => exact ⟨env2, H2, IM2, bs2, q, q1, q2, q3, q4, g6.trans q5⟩

/-- The slots told anew, objects beyond forgotten. -/
theorem AWP.cut {P : Program} {n bm : Nat} {c : Code} {Q : APost} {env env' : Env} {H H' : AH} (hE : leE env' env) (hH : takeH H'.length H = H') (hl : H.length ≤ H'.length ∨ True) (h1 : undE H'.length env' = true) (h2 : undH H'.length H' = true)
    (hsame : H.length = H'.length) (h : AWP P n bm c Q env' H') : AWP P n bm c Q env H := by
  have : H = H' := by
    rw [takeH_eq, ← hsame, List.take_length] at hH
    exact hH
  subst this
  exact h.weaken (leE_le _ _ hE)

/-- A row of the call's own in slot t is told as one that does not turn any more. -/
theorem AWP.freeze {P : Program} {n bm : Nat} {c : Code} {Q : APost} {env : Env} {H : AH} (t k : Nat) {m : Nat} {u : U} {xs : List (El u)} (ht : look t env = some (.ref k 0 m)) (hk : ath H k = some (.row u xs)) (hm : m = xs.length)
    (h : AWP P n bm c Q ((t, .isl u xs) :: env) (Abs.put k .dead H)) : AWP P n bm c Q env H := by
  intro IM bs w a h1 h2 h3 h4
  rw [ath_eq] at hk
  subst hm
  obtain ⟨IM', g1, g2, g3⟩ := h3.freeze hk (Nat.le_refl _)
  rw [← put_eq] at g1 g2
  have hv := g3 _ (h4 t _ ht)
  rw [List.take_length] at hv
  refine wp_mono (h IM' bs w a h1 h2 g1 ((h4.mono g2.imm g2.pre).again hv)) ?_
  rintro e a' w' ⟨env', H', IM2, bs2, q, q1, q2, q3, q4, q5⟩
  exact ⟨env', H', IM2, bs2, q, q1, q2, q3, q4, (g2.toM _).trans q5⟩

/-- nil is an empty row of the call's own. -/
theorem AWP.own {P : Program} {n bm : Nat} {c : Code} {Q : APost} {env : Env} {H : AH} (t : Nat) (u : U) (ht : look t env = some .nilsl) (h : AWP P n bm c Q ((t, .ref H.length 0 0) :: env) (H ++ [.row u []])) : AWP P n bm c Q env H := by
  intro IM bs w a h1 h2 h3 h4
  obtain ⟨r1, r2⟩ := h3.add (w' := w) (Same.refl w) (fun b _ => rfl) (B := ⟨0, 0, 0⟩) (fun h => (h rfl).elim) (o' := .row u []) (.inl ⟨rfl, rfl, rfl⟩)
  have hv : VR IM (bs ++ [⟨0, 0, 0⟩]) (a.tmps.getD t undef) (.ref H.length 0 0) := by
    have := h4 t _ ht
    generalize a.tmps.getD t undef = q at this
    cases this
    exact .ref0 H.length 0 ⟨0, 0, 0⟩ (by rw [← h3.len]; simp) (Nat.le_refl _) none
  refine wp_mono (h IM _ w a h1 h2 r1 ((h4.mono r2.imm r2.pre).again hv)) ?_
  rintro e a' w' ⟨env', H', IM2, bs2, q, q1, q2, q3, q4, q5⟩
  exact ⟨env', H', IM2, bs2, q, q1, q2, q3, q4, (r2.toM _).trans q5⟩

/-! ### Contracts at other places -/

theorem VR.closed {IM : Imm} {bs bs' : List Blk} {v : Value} {a : AV} (h : VR IM bs v a) (hc : a.und 0 = true) : VR IM bs' v a := by
  have := h.take 0 hc
  exact this.mono (Imm.le_refl _) (List.nil_prefix)

/-- A call that touches no object of ours goes anywhere. -/
theorem EvR.frame {C : Ctx} {g : FuncId} {as : List AV} {R : AV → Prop} (h : EvR C g as [] fun v H' => R v ∧ v.und 0 = true ∧ H' = []) (ha : undL 0 as = true) (H : AH) : EvR C g as H fun v H' => R v ∧ H' = H := by
  refine ⟨h.1, fun IM bs w vs hw hvs => ?_⟩
  have hw0 : WR IM [] w [] := ⟨rfl, hw.imm, fun k o B h => by simp at h, fun k k' o o' B B' h => by simp at h, fun k o B h => by simp at h⟩
  refine (h.2 IM [] w vs hw0 ⟨hvs.1, fun j c hc => (hvs.2 j c hc).closed (undL_mem ha c (List.mem_of_getElem? hc))⟩).mono ?_
  rintro e w' ⟨r, IM', bs', H', av, rfl, h1, h2, h3, h4, h5, rfl⟩
  have hblk : ∀ (k : Nat) (o : AObj) (B : Blk), H[k]? = some o → bs[k]? = some B → Claim o B → w'.heap[B.b]? = w.heap[B.b]? := fun k o B hk hB hc =>
    h3.frame B.b ((hw.obj k o B hk hB).there hc) (fun k o B h => by simp at h)
  refine ⟨r, IM', bs, H, av, rfl, h1.closed h5, ⟨hw.len, h2.imm, ?_, hw.inj, ?_⟩, ⟨h3.os, h3.tape, h3.output, h3.size, h3.imm, List.prefix_refl _, ?_, ?_, ?_⟩, h4, rfl⟩
  · intro k o B hk hB
    exact (hw.obj k o B hk hB).mono (fun hc => hblk k o B hk hB hc) h3.imm (List.prefix_refl _)
  · intro k o B hk hc hB
    cases hI : IM' B.b with
    | none => rfl
    | some m =>
      rcases h3.fresh _ _ hI with h | h | ⟨k0, o0, B0, h, _⟩
      · rw [hw.dis k o B hk hc hB] at h; cases h
      · have := (hw.obj k o B hk hB).there hc; omega
      · simp at h
  · intro b hb hn
    exact h3.frame b hb (fun k o B h => by simp at h)
  · intro b m hm
    rcases h3.fresh b m hm with h | h | ⟨k0, o0, B0, h, _⟩
    · exact .inl h
    · exact .inr (.inl h)
    · simp at h
  · intro k o B hk hc hB
    exact .inr ⟨k, o, B, hk, hc, hB, rfl⟩

/-- A function of plain values: it hands back this one, and nothing of ours is touched. -/
def Pu (C : Ctx) (g : FuncId) (as : List AV) (v : AV) : Prop := EvR C g as [] fun v' H' => v' = v ∧ H' = []

theorem Pu.ev {C : Ctx} {g : FuncId} {as : List AV} {v : AV} (h : Pu C g as v) (ha : undL 0 as = true) (hv : v.und 0 = true) (H : AH) : EvR C g as H fun v' H' => v' = v ∧ H' = H := by
  refine EvR.frame (R := fun v' => v' = v) ?_ ha H
  refine ⟨h.1, fun IM bs w vs hw hvs => (h.2 IM bs w vs hw hvs).mono ?_⟩
  rintro e w' ⟨r, IM', bs', H', av, he, h1, h2, h3, rfl, rfl⟩
  exact ⟨r, IM', bs', [], _, he, h1, h2, h3, rfl, hv, rfl⟩

end Go.Abs
end

section
set_option autoImplicit false
set_option linter.unusedVariables false
namespace Go.Abs
open Go

theorem TOk.mk' {P : Program} {t : TypeId} {i : TI} {d : TypeDesc} (hu : P.underlying t = some d) (hd : TDok d i.d) (z : Value) (hi : (P.info? t).map (fun j => (j.size, j.bytes, j.zero)) = some (i.sz, i.bytes, some z))
    (hz : constA z = some i.zero) (hsz : z.cells.size = i.sz) (hone : z.cells.toList.all (·.oneCell') = true)
    (hU : i.u = none ∨ ∃ u, i.u = some u ∧ u.sz = i.sz ∧ ((enc u (dflt u)).cells = i.zero.cells ∨ ∃ u', u = .list u' ∧ z = .slice none 0 0)) : TOk P t i := by
  refine ⟨⟨d, hu, hd⟩, ?_⟩
  cases hj : P.info? t with
  | none => rw [hj] at hi; cases hi
  | some inf =>
    rw [hj] at hi
    simp only [Option.map_some, Option.some.injEq, Prod.mk.injEq] at hi
    have hv : ∀ IM bs, VR IM bs z i.zero := fun IM bs => VR.constA hz
    refine ⟨inf, z, rfl, hi.1, hi.2.1, hi.2.2, hsz, hv, List.all_eq_true.1 hone, fun u hu => ?_⟩
    rcases hU with h | ⟨u', h1, h2, h3⟩
    · rw [hu] at h; cases h
    · rw [hu] at h1
      cases h1
      refine ⟨h2, fun IM bs j c hc => ?_⟩
      rcases h3 with h3 | ⟨u'', rfl, rfl⟩
      · rw [h3] at hc
        have hvz := hv IM bs
        have hcl : i.zero.cells.all AV.one = true := by rw [← h3]; exact enc_one u _
        exact (hvz.cells hcl).2.1 j c hc
      · cases j with
        | zero =>
          simp only [enc, AV.cells, List.getElem?_cons_zero, Option.some.injEq] at hc
          subst hc
          exact .isl0 _ _ _
        | succ j => simp [enc, AV.cells] at hc

def AllT (p : TypeId → TI → Prop) : Nat → List TI → Prop
  | _, [] => True
  | n, a :: r => p n a ∧ AllT p (n + 1) r

theorem AllT.nil {p : TypeId → TI → Prop} {n : Nat} : AllT p n [] := trivial
theorem AllT.cons {p : TypeId → TI → Prop} {n : Nat} {a : TI} {r : List TI} (h : p n a) (h' : AllT p (n + 1) r) : AllT p n (a :: r) := ⟨h, h'⟩
theorem AllT.at {p : TypeId → TI → Prop} : ∀ {l : List TI} {n : Nat}, AllT p n l → ∀ {k : Nat} {i : TI}, nth l k = some i → p (n + k) i
  | [], n, h, k, i, hk => by cases hk
  | a :: r, n, h, 0, i, hk => by cases hk; exact h.1
  | a :: r, n, h, k + 1, i, hk => by
    have := AllT.at (l := r) h.2 (k := k) hk
    rwa [Nat.add_assoc, Nat.add_comm 1 k] at this

theorem AllT.at0 {p : TypeId → TI → Prop} {l : List TI} (h : AllT p 0 l) {k : Nat} {i : TI} (hk : nth l k = some i) : p k i := by
  have := h.at hk
  rwa [Nat.zero_add] at this

def bodyOf (fn : Func) : Code := fn.body.getD .skip

theorem ev_of {C : Ctx} {g : FuncId} {fn : Func} {as : List AV} {H : AH} {R : AV → AH → Prop} (hf : C.P.funcs[g]? = some fn) (hb : fn.body.isSome = true) (hn : (fn.name == "runtime.NumGoroutine") = false)
    (hle : Nat.ble as.length fn.ntmps = true) (h : AwM C fn.ntmps H.length (bodyOf fn) (retQ C fn.results.toList fun v H' => Fin (R v H')) (parE 0 as) H) : EvR C g as H R := by
  cases hc : fn.body with
  | none => rw [hc] at hb; cases hb
  | some c =>
    unfold bodyOf at h
    rw [hc] at h
    have := ev_of_aw hf hc hn hle h
    exact ⟨this.1, fun IM bs w vs hw hvs => (this.2 IM bs w vs hw hvs).mono fun e w' ⟨r, IM', bs', H', av, h1, h2, h3, h4, h5⟩ => ⟨r, IM', bs', H', av, h1, h2, h3, h4, h5.out⟩⟩

end Go.Abs
end

section
set_option autoImplicit false
set_option linter.unusedVariables false
namespace Go.Abs
open Go

theorem Br.dec {c p q : Prop} [Decidable c] (t : c → p) (f : ¬ c → q) : Br (decide c) p q :=
  ⟨fun h => t (of_decide_eq_true h), fun h => f (of_decide_eq_false h)⟩
theorem Br.decT {c p q : Prop} [Decidable c] (h : c) (t : p) : Br (decide c) p q := Br.dec (fun _ => t) (fun n => (n h).elim)
theorem Br.decF {c p q : Prop} [Decidable c] (h : ¬ c) (f : q) : Br (decide c) p q := Br.dec (fun n => (h n).elim) (fun _ => f)
theorem Br.not {b : Bool} {p q : Prop} (h : Br b q p) : Br (!b) p q := by
  cases b with
  | false => exact Br.tt (h.f rfl)
  | true => exact Br.ff (h.t rfl)
theorem Br.beqI {a b : Int} {p q : Prop} (h : Br (decide (a = b)) p q) : Br (a == b) p q := by
  rwa [show (a == b) = decide (a = b) from by cases h : decide (a = b) <;> simp_all]
theorem Br.bneI {a b : Int} {p q : Prop} (h : Br (decide (a = b)) q p) : Br (a != b) p q := by
  have : (a != b) = !(decide (a = b)) := by
    cases h : decide (a = b) <;> simp_all
  rw [this]
  exact Br.not h

/-- A call of a function of plain values. -/
theorem CallA.pu {C : Ctx} {g : FuncId} {as : List AV} {H : AH} {K : AV → AH → Prop} {v : AV} (h : Pu C g as v) (ha : undL 0 as = true) (hv : v.und 0 = true) (hk : K v H) : CallA C g as H K :=
  ⟨_, h.ev ha hv H, fun v' H' ⟨e1, e2⟩ => by rw [e1, e2]; exact hk⟩

end Go.Abs
end

section
set_option autoImplicit false
set_option linter.unusedVariables false
set_option linter.unusedSimpArgs false
namespace Go.Abs
open Go

/-! ### Regions whose order is drawn -/

/-- In whatever heap. -/
structure ForH (p : AH → Prop) : Prop where
  h : ∀ H, p H

structure DrawF (s : AH → (AV → AH → Prop) → Prop) (k : AV → Prop) : Prop where
  mk' ::
  h : ∃ v, (∀ H, s H fun v' H' => Fin (v' = v ∧ H' = H)) ∧ k v
theorem DrawF.mk {s : AH → (AV → AH → Prop) → Prop} {k : AV → Prop} (v : AV) (h : ForH fun H => s H fun v' H' => Fin (v' = v ∧ H' = H)) (hk : k v) : DrawF s k := ⟨v, h.h, hk⟩
structure DrawR (s : (AV → AH → Prop) → Prop) (H : AH) (k : AV → Prop) : Prop where
  mk' ::
  h : ∃ v, (s fun v' H' => Fin (v' = v ∧ H' = H)) ∧ k v
theorem DrawR.mk {s : (AV → AH → Prop) → Prop} {H : AH} {k : AV → Prop} (v : AV) (h : s fun v' H' => Fin (v' = v ∧ H' = H)) (hk : k v) : DrawR s H k := ⟨v, h, hk⟩
structure DrawE (s : (AV → AH → Prop) → Prop) (k : AV → AH → Prop) : Prop where
  mk' ::
  h : ∃ v H1, (s fun v' H' => Fin (v' = v ∧ H' = H1)) ∧ k v H1
theorem DrawE.mk {s : (AV → AH → Prop) → Prop} {k : AV → AH → Prop} (v : AV) (H1 : AH) (h : s fun v' H' => Fin (v' = v ∧ H' = H1)) (hk : k v H1) : DrawE s k := ⟨v, H1, h, hk⟩

def restr (env : Env) : List Nat → Env
  | [] => []
  | t :: r => match look t env with
    | some v => (t, v) :: restr env r
    | none => restr env r

theorem look_restr {env : Env} : ∀ {l : List Nat} {t : Nat} {v : AV}, look t (restr env l) = some v → t ∈ l ∧ look t env = some v
  | [], t, v, h => by cases h
  | s :: r, t, v, h => by
    unfold restr at h
    split at h
    · rename_i x hx
      unfold look at h
      split at h
      · rename_i e; subst e; cases h; exact ⟨List.mem_cons_self, hx⟩
      · obtain ⟨h1, h2⟩ := look_restr h; exact ⟨List.mem_cons_of_mem _ h1, h2⟩
    · obtain ⟨h1, h2⟩ := look_restr h; exact ⟨List.mem_cons_of_mem _ h1, h2⟩

def LookEq (e e' : Env) : Prop := ∀ t, look t e = look t e'
theorem restr_congr {e e' : Env} (h : LookEq e e') : ∀ l, restr e l = restr e' l
  | [] => rfl
  | t :: r => by unfold restr; rw [h t, restr_congr h r]

def tmpsOf : List Operand → List Nat
  | [] => []
  | .tmp t :: r => t :: tmpsOf r
  | _ :: r => tmpsOf r
def namesOf (o : Oper) : List Nat := tmpsOf o.op.operands.toList

def ovr : List (Nat × Nat) → Nat → Option Nat
  | [], _ => none
  | (a, k) :: r, i => match Nat.beq a i with
    | true => some k
    | false => ovr r i

/-- 0 free of our heap, 1 reading it, 2 turning it. -/
def kindO : Op → Nat
  | .load _ _ | .slice _ _ _ _ _ | .indexAddr _ _ _ => 1
  | .alloc _ | .box _ _ | .buildSlice _ _ _ | .store _ _ _ | .makeSlice _ _ _ => 2
  | .call ⟨.builtin .append, _, _⟩ => 2
  | .call ⟨.builtin .max, _, _⟩ => 0
  | .call ⟨.builtin .min, _, _⟩ => 0
  | .call ⟨.builtin _, _, _⟩ => 1
  | _ => 0
def kindAt (ov : List (Nat × Nat)) (i : Nat) (o : Oper) : Nat := match ovr ov i with
  | some k => k
  | none => kindO o.op

def drawA (C : Ctx) (n : Nat) (all : List Oper) (ov : List (Nat × Nat)) (Q : Env → AH → Prop) : Nat → List Oper → Env → AH → Prop
  | _, [], env, H => Q env H
  | i, o :: r, env, H =>
    let go (env' : Env) : Prop := match kindAt ov i o with
      | 0 => DrawF (fun H' K => stepA C (restr env' (namesOf o)) H' o.op K) (fun v => putA n o.dst v env' fun env2 => drawA C n all ov Q (i + 1) r env2 H)
      | 1 => DrawR (stepA C (restr env' (namesOf o)) H o.op) H (fun v => putA n o.dst v env' fun env2 => drawA C n all ov Q (i + 1) r env2 H)
      | _ => DrawE (stepA C (restr env' (namesOf o)) H o.op) (fun v H' => putA n o.dst v env' fun env2 => drawA C n all ov Q (i + 1) r env2 H')
    match o.guard with
    | none => go env
    | some (j, want) => match lat all j with
      | some oj => match oj.dst with
        | some t => match look t env with
          | some (.bool v) => match want with
            | true => Br v (go ((t, .bool true) :: env)) (putA n o.dst .junk ((t, .bool false) :: env) fun env2 => drawA C n all ov Q (i + 1) r env2 H)
            | false => Br v (putA n o.dst .junk ((t, .bool true) :: env) fun env2 => drawA C n all ov Q (i + 1) r env2 H) (go ((t, .bool false) :: env))
          | _ => False
        | none => False
      | none => False

/-! what is known of each operation -/

def Act1 (all : List Oper) (o : Oper) (E : Env) (b : Bool) : Prop :=
  match o.guard with
  | none => b = true
  | some (j, want) => ∃ oj t, lat all j = some oj ∧ oj.dst = some t ∧ look t E = some (.bool (if b then want else !want))

structure Fact (C : Ctx) (n : Nat) (all : List Oper) (ov : List (Nat × Nat)) (i : Nat) (o : Oper) (E : Env) (v : AV) (H H' : AH) : Prop where
  lt : ∀ t, o.dst = some t → t < n
  same : kindAt ov i o = 0 ∨ kindAt ov i o = 1 → H' = H
  b : (Act1 all o E true ∧ (kindAt ov i o = 0 → ∀ H0, stepA C (restr E (namesOf o)) H0 o.op fun v' H2 => v' = v ∧ H2 = H0) ∧ (kindAt ov i o ≠ 0 → stepA C (restr E (namesOf o)) H o.op fun v' H2 => v' = v ∧ H2 = H')) ∨
      (Act1 all o E false ∧ v = .junk ∧ H' = H)

def putE (d : Option Tmp) (v : AV) (env : Env) : Env := match d with
  | none => env
  | some t => (t, v) :: env

def envS (vs : Nat → AV) : Nat → List Oper → Nat → Env → Env
  | _, _, 0, env => env
  | _, [], _ + 1, env => env
  | i, o :: r, k + 1, env => envS vs (i + 1) r k (putE o.dst (vs i) env)

theorem putE_congr {d : Option Tmp} {v : AV} {e e' : Env} (h : LookEq e e') : LookEq (putE d v e) (putE d v e') := by
  cases d with
  | none => exact h
  | some t => intro s; unfold putE look; split <;> first | rfl | exact h s

theorem envS_congr {vs : Nat → AV} : ∀ (l : List Oper) (i k : Nat) {e e' : Env}, LookEq e e' → LookEq (envS vs i l k e) (envS vs i l k e')
  | _, _, 0, e, e', h => by unfold envS; exact h
  | [], _, k + 1, e, e', h => by unfold envS; exact h
  | o :: r, i, k + 1, e, e', h => by unfold envS; exact envS_congr r (i + 1) k (putE_congr h)

theorem envS_vs {vs vs' : Nat → AV} : ∀ (l : List Oper) (i k : Nat) (e : Env), (∀ m, i ≤ m → vs m = vs' m) → envS vs i l k e = envS vs' i l k e
  | _, _, 0, e, h => by unfold envS; rfl
  | [], _, k + 1, e, h => by unfold envS; rfl
  | o :: r, i, k + 1, e, h => by
    unfold envS
    rw [h i (Nat.le_refl i)]
    exact envS_vs r (i + 1) k _ fun m hm => h m (by omega)

theorem push_same {t : Nat} {v : AV} {e : Env} (h : look t e = some v) : LookEq ((t, v) :: e) e := by
  intro s
  unfold look
  split
  · rename_i q; subst q; rw [← h]; cases e <;> rfl
  · cases e <;> rfl

theorem putA_putE {n : Nat} {d : Option Tmp} {v : AV} {env : Env} {K : Env → Prop} (h : putA n d v env K) : K (putE d v env) ∧ ∀ t, d = some t → t < n := by
  unfold putA at h
  split at h
  · exact ⟨h, fun t ht => by cases ht⟩
  · rename_i t
    split at h
    · rename_i hb; exact ⟨h, fun s hs => by cases hs; simpa [Nat.blt_eq] using hb⟩
    · exact h.elim

theorem stepA_mono {C : Ctx} {env : Env} {H : AH} {o : Op} {v : AV} {H1 : AH} (h : stepA C env H o fun v' H' => Fin (v' = v ∧ H' = H1)) : stepA C env H o fun v' H' => v' = v ∧ H' = H1 := by
  have : (fun v' H' => Fin (v' = v ∧ H' = H1)) = fun v' H' => v' = v ∧ H' = H1 := by
    funext v' H'; exact propext ⟨fun h => h.out, fun h => ⟨h⟩⟩
  rwa [this] at h

theorem extract {C : Ctx} {n : Nat} {all : List Oper} {ov : List (Nat × Nat)} {Q : Env → AH → Prop} : ∀ (r : List Oper) (i : Nat) (env : Env) (H : AH), drawA C n all ov Q i r env H →
    ∃ (vs : Nat → AV) (hs : Nat → AH), hs i = H ∧ (∀ k o, r[k]? = some o → Fact C n all ov (i + k) o (envS vs i r k env) (vs (i + k)) (hs (i + k)) (hs (i + k + 1))) ∧
      ∃ envF, LookEq envF (envS vs i r r.length env) ∧ Q envF (hs (i + r.length))
  | [], i, env, H, h => ⟨fun _ => .junk, fun _ => H, rfl, fun k o hk => by simp at hk, env, fun _ => rfl, h⟩
  | o :: r, i, env, H, h => by
    have main : ∀ (env' : Env) (v : AV) (H1 : AH), LookEq env' env → Fact C n all ov i o env v H H1 → drawA C n all ov Q (i + 1) r (putE o.dst v env') H1 →
        ∃ (vs : Nat → AV) (hs : Nat → AH), hs i = H ∧ (∀ k o', (o :: r)[k]? = some o' → Fact C n all ov (i + k) o' (envS vs i (o :: r) k env) (vs (i + k)) (hs (i + k)) (hs (i + k + 1))) ∧
          ∃ envF, LookEq envF (envS vs i (o :: r) (o :: r).length env) ∧ Q envF (hs (i + (o :: r).length)) := by
      intro env' v H1 hle hf hd
      obtain ⟨vs, hs, h1, h2, envF, h3, h4⟩ := extract r (i + 1) _ H1 hd
      refine ⟨fun m => if m = i then v else vs m, fun m => if m = i then H else hs m, by simp, ?_, envF, ?_, ?_⟩
      · intro k o' hk
        cases k with
        | zero =>
          simp only [List.getElem?_cons_zero, Option.some.injEq] at hk
          subst hk
          have e1 : ¬ i + 1 = i := by omega
          simp only [Nat.add_zero, if_true, e1, if_false, h1]
          unfold envS
          exact hf
        | succ k =>
          simp only [List.getElem?_cons_succ] at hk
          have := h2 k o' hk
          have e1 : ¬ i + (k + 1) = i := by omega
          have e2 : ¬ i + (k + 1) + 1 = i := by omega
          simp only [e1, e2, if_false]
          have e3 : i + 1 + k = i + (k + 1) := by omega
          rw [e3] at this
          have heq : LookEq (envS vs (i + 1) r k (putE o.dst v env')) (envS (fun m => if m = i then v else vs m) i (o :: r) (k + 1) env) := by
            rw [envS]
            simp only [if_true]
            rw [envS_vs (vs := fun m => if m = i then v else vs m) (vs' := vs) r (i + 1) k _ (fun m hm => by simp; omega)]
            exact envS_congr r (i + 1) k (putE_congr hle)
          refine ⟨this.lt, this.same, ?_⟩
          have hact : ∀ b, Act1 all o' (envS vs (i + 1) r k (putE o.dst v env')) b → Act1 all o' (envS (fun m => if m = i then v else vs m) i (o :: r) (k + 1) env) b := by
            intro b
            unfold Act1
            split
            · exact id
            · rintro ⟨oj, t, a1, a2, a3⟩; exact ⟨oj, t, a1, a2, by rw [← heq t]; exact a3⟩
          rcases this.b with ⟨a1, a2, a3⟩ | ⟨a1, a2, a3⟩
          · refine .inl ⟨hact _ a1, ?_, ?_⟩
            · rw [← restr_congr heq]; exact a2
            · rw [← restr_congr heq]; exact a3
          · exact .inr ⟨hact _ a1, a2, a3⟩
      · rw [List.length_cons, envS]
        simp only [if_true]
        rw [envS_vs (vs := fun m => if m = i then v else vs m) (vs' := vs) r (i + 1) _ _ (fun m hm => by simp; omega)]
        intro t
        rw [h3 t]
        exact envS_congr r (i + 1) _ (putE_congr hle) t
      · have e1 : ¬ i + (r.length + 1) = i := by omega
        simp only [List.length_cons, e1, if_false]
        have e3 : i + 1 + r.length = i + (r.length + 1) := by omega
        rwa [e3] at h4
    have go : ∀ (env' : Env), LookEq env' env → Act1 all o env true →
        (match kindAt ov i o with
          | 0 => DrawF (fun H' K => stepA C (restr env' (namesOf o)) H' o.op K) (fun v => putA n o.dst v env' fun env2 => drawA C n all ov Q (i + 1) r env2 H)
          | 1 => DrawR (stepA C (restr env' (namesOf o)) H o.op) H (fun v => putA n o.dst v env' fun env2 => drawA C n all ov Q (i + 1) r env2 H)
          | _ => DrawE (stepA C (restr env' (namesOf o)) H o.op) (fun v H' => putA n o.dst v env' fun env2 => drawA C n all ov Q (i + 1) r env2 H')) →
        ∃ (vs : Nat → AV) (hs : Nat → AH), hs i = H ∧ (∀ k o', (o :: r)[k]? = some o' → Fact C n all ov (i + k) o' (envS vs i (o :: r) k env) (vs (i + k)) (hs (i + k)) (hs (i + k + 1))) ∧
          ∃ envF, LookEq envF (envS vs i (o :: r) (o :: r).length env) ∧ Q envF (hs (i + (o :: r).length)) := by
      intro env' hle hact hm
      split at hm
      · rename_i hk
        obtain ⟨v, h1, h2⟩ := hm
        obtain ⟨h3, h4⟩ := putA_putE h2
        refine main env' v H hle ⟨h4, fun _ => rfl, .inl ⟨hact, fun _ H0 => ?_, fun q => (q hk).elim⟩⟩ h3
        rw [← restr_congr hle]; exact stepA_mono (h1 H0)
      · rename_i hk
        obtain ⟨v, h1, h2⟩ := hm
        obtain ⟨h3, h4⟩ := putA_putE h2
        refine main env' v H hle ⟨h4, fun _ => rfl, .inl ⟨hact, fun q => (by rw [hk] at q; cases q), fun q => ?_⟩⟩ h3
        rw [← restr_congr hle]; exact stepA_mono h1
      · rename_i hk0 hk1
        obtain ⟨v, H1, h1, h2⟩ := hm
        obtain ⟨h3, h4⟩ := putA_putE h2
        refine main env' v H1 hle ⟨h4, fun q => (q.elim (hk0) (hk1)).elim, .inl ⟨hact, fun q => (hk0 q).elim, fun q => ?_⟩⟩ h3
        rw [← restr_congr hle]; exact stepA_mono h1
    have skip : ∀ (env' : Env), LookEq env' env → Act1 all o env false → (putA n o.dst .junk env' fun env2 => drawA C n all ov Q (i + 1) r env2 H) →
        ∃ (vs : Nat → AV) (hs : Nat → AH), hs i = H ∧ (∀ k o', (o :: r)[k]? = some o' → Fact C n all ov (i + k) o' (envS vs i (o :: r) k env) (vs (i + k)) (hs (i + k)) (hs (i + k + 1))) ∧
          ∃ envF, LookEq envF (envS vs i (o :: r) (o :: r).length env) ∧ Q envF (hs (i + (o :: r).length)) := by
      intro env' hle hact hp
      obtain ⟨h3, h4⟩ := putA_putE hp
      exact main env' .junk H hle ⟨h4, fun _ => rfl, .inr ⟨hact, rfl, rfl⟩⟩ h3
    unfold drawA at h
    dsimp only at h
    split at h
    · rename_i hg
      exact go env (fun _ => rfl) (by unfold Act1; rw [hg]) h
    · rename_i j want hg
      split at h
      · rename_i oj hj
        split at h
        · rename_i t ht
          split at h
          · rename_i v hv
            have act : ∀ b : Bool, v = (if b then want else !want) → Act1 all o env b := by
              intro b hb
              unfold Act1
              rw [hg]
              exact ⟨oj, t, hj, ht, by rw [hv, hb]⟩
            split at h
            · cases v with
              | true => exact go _ (push_same hv) (act true rfl) (h.1 rfl)
              | false => exact skip _ (push_same hv) (act false rfl) (h.2 rfl)
            · cases v with
              | true => exact skip _ (push_same hv) (act false rfl) (h.1 rfl)
              | false => exact go _ (push_same hv) (act true rfl) (h.2 rfl)
          · exact h.elim
        · exact h.elim
      · exact h.elim

end Go.Abs
end

section
set_option autoImplicit false
set_option linter.unusedVariables false
set_option linter.unusedSimpArgs false
namespace Go.Abs
open Go

def dpsL : List Edge → List Nat
  | [] => []
  | e :: r => match Region.binds .any e with
    | true => e.on :: dpsL r
    | false => dpsL r
theorem dpsL_mem : ∀ {l : List Edge} {k : Nat}, k ∈ dpsL l → ∃ e ∈ l, Region.binds .any e = true ∧ e.on = k
  | [], k, h => by cases h
  | e :: r, k, h => by
    unfold dpsL at h
    split at h
    · rename_i hb
      cases h with
      | head => exact ⟨e, List.mem_cons_self, hb, rfl⟩
      | tail _ h => obtain ⟨x, h1, h2⟩ := dpsL_mem h; exact ⟨x, List.mem_cons_of_mem _ h1, h2⟩
    · obtain ⟨x, h1, h2⟩ := dpsL_mem h; exact ⟨x, List.mem_cons_of_mem _ h1, h2⟩
theorem dpsL_of : ∀ {l : List Edge} {e : Edge}, e ∈ l → Region.binds .any e = true → e.on ∈ dpsL l
  | [], e, h, hb => by cases h
  | x :: r, e, h, hb => by
    unfold dpsL
    cases h with
    | head => rw [hb]; exact List.mem_cons_self
    | tail _ h =>
      split
      · exact List.mem_cons_of_mem _ (dpsL_of h hb)
      · exact dpsL_of h hb

def dpsOf (o : Oper) : List Nat := dpsL o.after.toList

def getN : List Nat → Nat → Nat
  | [], _ => 0
  | a :: _, 0 => a
  | _ :: r, k + 1 => getN r k
def maskOf (B : List Nat) : List Nat → Nat
  | [] => 0
  | k :: r => Nat.lor (Nat.lor (Nat.shiftLeft 1 k) (getN B k)) (maskOf B r)
theorem maskOf_bit {B : List Nat} : ∀ {l : List Nat} {j : Nat}, (maskOf B l).testBit j = true → ∃ k ∈ l, k = j ∨ (getN B k).testBit j = true
  | [], j, h => by simp [maskOf] at h
  | k :: r, j, h => by
    have h' : ((1 <<< k ||| getN B k) ||| maskOf B r).testBit j = true := h
    rw [Nat.testBit_or, Nat.testBit_or, Bool.or_eq_true, Bool.or_eq_true] at h'
    rcases h' with (h' | h') | h'
    · refine ⟨k, List.mem_cons_self, .inl ?_⟩
      rw [Nat.one_shiftLeft, Nat.testBit_two_pow] at h'
      exact of_decide_eq_true h'
    · exact ⟨k, List.mem_cons_self, .inr h'⟩
    · obtain ⟨x, h1, h2⟩ := maskOf_bit h'; exact ⟨x, List.mem_cons_of_mem _ h1, h2⟩

def masks : List Oper → List Nat → List Nat
  | [], B => B
  | o :: r, B => masks r (B ++ [maskOf B (dpsOf o)])

theorem getN_eq : ∀ (l : List Nat) (k : Nat), getN l k = l.getD k 0
  | [], k => by simp [getN]
  | a :: r, 0 => by simp [getN]
  | a :: r, k + 1 => by simp [getN, getN_eq r k]

theorem masks_pre : ∀ (l : List Oper) (B : List Nat), B <+: masks l B
  | [], B => List.prefix_refl _
  | o :: r, B => (List.prefix_append _ _).trans (masks_pre r _)
theorem masks_at : ∀ (l : List Oper) (B : List Nat) (k : Nat) (o : Oper), l[k]? = some o → ∃ B', B' <+: masks l B ∧ getN (masks l B) (B.length + k) = maskOf B' (dpsOf o) ∧ B'.length = B.length + k
  | [], B, k, o, h => by simp at h
  | x :: r, B, 0, o, h => by
    simp only [List.getElem?_cons_zero, Option.some.injEq] at h
    subst h
    refine ⟨B, (List.prefix_append _ _).trans (masks_pre r _), ?_, rfl⟩
    obtain ⟨t, ht⟩ := masks_pre r (B ++ [maskOf B (dpsOf x)])
    rw [masks, ← ht, getN_eq]
    simp
  | x :: r, B, k + 1, o, h => by
    obtain ⟨B', h1, h2, h3⟩ := masks_at r (B ++ [maskOf B (dpsOf x)]) k o (by simpa using h)
    simp only [List.length_append, List.length_singleton] at h2 h3
    exact ⟨B', h1, by rw [masks, show B.length + (k + 1) = B.length + 1 + k by omega]; exact h2, by omega⟩

theorem getN_pre {B B' : List Nat} (h : B' <+: B) {k : Nat} (hk : k < B'.length) : getN B' k = getN B k := by
  obtain ⟨t, rfl⟩ := h
  rw [getN_eq, getN_eq, List.getD_eq_getElem?_getD, List.getD_eq_getElem?_getD, List.getElem?_append_left hk]

def memN (t : Nat) : List Nat → Bool
  | [] => false
  | a :: r => Nat.beq a t || memN t r
theorem memN_ok {t : Nat} : ∀ {l : List Nat}, t ∈ l → memN t l = true
  | [], h => by cases h
  | a :: r, h => by
    unfold memN
    rw [Bool.or_eq_true]
    cases h with
    | head => exact .inl (by simp)
    | tail _ h => exact .inr (memN_ok h)

def dstL (o : Oper) : List Nat := match o.dst with
  | none => []
  | some t => [t]

def ordB (B : List Nat) (i j : Nat) : Bool := match Nat.blt i j with
  | true => Nat.testBit (getN B j) i
  | false => Nat.testBit (getN B i) j

def ckJ (B : List Nat) (ov : List (Nat × Nat)) (i : Nat) (o : Oper) : Nat → List Oper → Bool
  | _, [] => true
  | j, p :: r => (match Nat.beq i j with
      | true => true
      | false => (match p.dst with
          | none => true
          | some t => !(memN t (dstL o))) && (match ordB B i j with
        | true => true
        | false => (match p.dst with
          | none => true
          | some t => !(memN t (namesOf o))) && !(Nat.ble 1 (kindAt ov i o) && Nat.ble 2 (kindAt ov j p)))) && ckJ B ov i o (j + 1) r

def allLt (i : Nat) : List Nat → Bool
  | [] => true
  | k :: r => Nat.blt k i && allLt i r
theorem allLt_ok {i : Nat} : ∀ {l : List Nat}, allLt i l = true → ∀ k ∈ l, k < i
  | [], _, k, hk => by cases hk
  | a :: r, h, k, hk => by
    unfold allLt at h
    rw [Bool.and_eq_true] at h
    cases hk with
    | head => simpa [Nat.blt_eq] using h.1
    | tail _ hk => exact allLt_ok h.2 k hk

def ckI (all : List Oper) (B : List Nat) (ov : List (Nat × Nat)) : Nat → List Oper → Bool
  | _, [] => true
  | i, o :: r => allLt i (dpsOf o) && (match o.guard with
      | none => true
      | some (j, _) => Nat.testBit (getN B i) j) && ckJ B ov i o 0 all && ckI all B ov (i + 1) r

def drawOk (all : List Oper) (ov : List (Nat × Nat)) : Bool := ckI all (masks all []) ov 0 all

theorem ckJ_at {B : List Nat} {ov : List (Nat × Nat)} {i : Nat} {o : Oper} : ∀ {l : List Oper} {j : Nat}, ckJ B ov i o j l = true → ∀ (k : Nat) (p : Oper), l[k]? = some p → i ≠ j + k →
    (∀ t, p.dst = some t → t ∉ dstL o) ∧ (ordB B i (j + k) = false → (∀ t, p.dst = some t → t ∉ namesOf o) ∧ (1 ≤ kindAt ov i o → 2 ≤ kindAt ov (j + k) p → False))
  | [], j, h, k, p, hk, _ => by simp at hk
  | q :: r, j, h, 0, p, hk, hne => by
    simp only [List.getElem?_cons_zero, Option.some.injEq] at hk
    subst hk
    unfold ckJ at h
    rw [Bool.and_eq_true] at h
    have h1 := h.1
    rw [Nat.add_zero] at hne ⊢
    have hb : Nat.beq i j = false := by
      cases hb : Nat.beq i j with
      | false => rfl
      | true => exact (hne (Nat.eq_of_beq_eq_true hb)).elim
    rw [hb] at h1
    simp only [Bool.and_eq_true] at h1
    refine ⟨fun t ht hm => ?_, fun ho => ?_⟩
    · have h2 := h1.1
      rw [ht] at h2
      simp only [Bool.not_eq_true'] at h2
      rw [memN_ok hm] at h2; cases h2
    · have h3 := h1.2
      rw [ho] at h3
      simp only [Bool.and_eq_true] at h3
      refine ⟨fun t ht hm => ?_, fun a b => ?_⟩
      · have h2 := h3.1
        rw [ht] at h2
        simp only [Bool.not_eq_true'] at h2
        rw [memN_ok hm] at h2; cases h2
      · have h2 := h3.2
        rw [Nat.ble_eq_true_of_le a, Nat.ble_eq_true_of_le b] at h2
        cases h2
  | q :: r, j, h, k + 1, p, hk, hne => by
    unfold ckJ at h
    rw [Bool.and_eq_true] at h
    have := ckJ_at h.2 k p (by simpa using hk) (by omega)
    rwa [show j + 1 + k = j + (k + 1) by omega] at this

theorem ckI_at {all : List Oper} {B : List Nat} {ov : List (Nat × Nat)} : ∀ {l : List Oper} {i : Nat}, ckI all B ov i l = true → ∀ (k : Nat) (o : Oper), l[k]? = some o →
    allLt (i + k) (dpsOf o) = true ∧ (∀ j w, o.guard = some (j, w) → Nat.testBit (getN B (i + k)) j = true) ∧ ckJ B ov (i + k) o 0 all = true
  | [], i, h, k, o, hk => by simp at hk
  | q :: r, i, h, 0, o, hk => by
    simp only [List.getElem?_cons_zero, Option.some.injEq] at hk
    subst hk
    unfold ckI at h
    simp only [Bool.and_eq_true] at h
    refine ⟨h.1.1.1, fun j w hg => ?_, h.1.2⟩
    have := h.1.1.2
    rw [hg] at this
    exact this
  | q :: r, i, h, k + 1, o, hk => by
    unfold ckI at h
    simp only [Bool.and_eq_true] at h
    have := ckI_at h.2 k o (by simpa using hk)
    rwa [show i + 1 + k = i + (k + 1) by omega] at this

theorem envS_look {vs : Nat → AV} : ∀ (l : List Oper) (i k : Nat) (e : Env) (t : Nat) (v : AV), look t (envS vs i l k e) = some v →
    (∃ j o, j < k ∧ l[j]? = some o ∧ o.dst = some t ∧ v = vs (i + j)) ∨ ((∀ j o, j < k → l[j]? = some o → o.dst ≠ some t) ∧ look t e = some v)
  | _, i, 0, e, t, v, h => .inr ⟨fun j o hj => by omega, by unfold envS at h; exact h⟩
  | [], i, k + 1, e, t, v, h => .inr ⟨fun j o hj ho => by simp at ho, by unfold envS at h; exact h⟩
  | o :: r, i, k + 1, e, t, v, h => by
    unfold envS at h
    rcases envS_look r (i + 1) k _ t v h with ⟨j, p, h1, h2, h3, h4⟩ | ⟨h1, h2⟩
    · exact .inl ⟨j + 1, p, by omega, by simpa using h2, h3, by rw [h4]; congr 1; omega⟩
    · unfold putE at h2
      split at h2
      · rename_i hd
        refine .inr ⟨fun j p hj hp => ?_, h2⟩
        cases j with
        | zero => simp at hp; subst hp; rw [hd]; simp
        | succ j => exact h1 j p (by omega) (by simpa using hp)
      · rename_i s hd
        unfold look at h2
        split at h2
        · rename_i e1; subst e1; cases h2
          exact .inl ⟨0, o, by omega, by simp, hd, rfl⟩
        · rename_i hne
          refine .inr ⟨fun j p hj hp => ?_, by cases e <;> exact h2⟩
          cases j with
          | zero => simp at hp; subst hp; rw [hd]; simp; exact fun q => hne q.symm
          | succ j => exact h1 j p (by omega) (by simpa using hp)

end Go.Abs
end

section
set_option autoImplicit false
set_option linter.unusedVariables false
set_option linter.unusedSimpArgs false
namespace Go.Abs
open Go

section
variable {C : Ctx} {n bm : Nat} {ops : Array Oper} {ov : List (Nat × Nat)} {Q : APost} {env : Env} {H : AH} {vs : Nat → AV} {hs : Nat → AH} {IM0 : Imm} {bs0 : List Blk} {w0 : World}

/-- What holds when these are done. -/
structure Inv (C : Ctx) (n bm : Nat) (ops : Array Oper) (ov : List (Nat × Nat)) (env : Env) (vs : Nat → AV) (hs : Nat → AH) (H : AH) (IM0 : Imm) (bs0 : List Blk) (w0 : World) (listed : Array Bool) (a : Act) (w : World) (p : Nat) : Prop where
  size : a.tmps.size = n
  defers : a.defers = []
  lsz : listed.size = ops.size
  ple : p ≤ ops.size
  before : ∀ (e : Nat) (o : Oper), ops[e]? = some o → 2 ≤ kindAt ov e o → (e < p ↔ listed.getD e false = true)
  closed : ∀ (i : Nat) (o : Oper), ops[i]? = some o → listed.getD i false = true → ∀ k ∈ dpsOf o, listed.getD k false = true
  rel : ∃ IM bs, WR IM bs w (hs p) ∧ ExtM bm IM0 bs0 w0 H IM bs w (hs p) ∧ (∀ (j : Nat) (o : Oper) (t : Nat), ops[j]? = some o → listed.getD j false = true → o.dst = some t → VR IM bs (a.tmps.getD t undef) (vs j)) ∧
    (∀ (t : Nat) (v : AV), look t env = some v → (∀ (j : Nat) (o : Oper), ops[j]? = some o → listed.getD j false = true → o.dst ≠ some t) → VR IM bs (a.tmps.getD t undef) v)

theorem hs_const (hf : ∀ (i : Nat) (o : Oper), ops[i]? = some o → Fact C n ops.toList ov i o (envS vs 0 ops.toList i env) (vs i) (hs i) (hs (i + 1))) :
    ∀ (d a : Nat), a + d ≤ ops.size → (∀ (e : Nat) (o : Oper), a ≤ e → e < a + d → ops[e]? = some o → ¬ 2 ≤ kindAt ov e o) → hs (a + d) = hs a
  | 0, a, _, _ => rfl
  | d + 1, a, hle, h => by
    have hlt : a + d < ops.size := by omega
    have h1 := (hf (a + d) ops[a + d] (by simp [hlt])).same (by
      have := h (a + d) ops[a + d] (by omega) (by omega) (by simp [hlt])
      omega)
    rw [show a + (d + 1) = a + d + 1 by omega, h1]
    exact hs_const hf d a (by omega) fun e o h1 h2 => h e o h1 (by omega)

theorem hs_const' (hf : ∀ (i : Nat) (o : Oper), ops[i]? = some o → Fact C n ops.toList ov i o (envS vs 0 ops.toList i env) (vs i) (hs i) (hs (i + 1)))
    {a b : Nat} (ha : a ≤ ops.size) (hb : b ≤ ops.size) (h : ∀ (e : Nat) (o : Oper), ops[e]? = some o → 2 ≤ kindAt ov e o → (e < a ↔ e < b)) : hs a = hs b := by
  rcases Nat.le_total a b with hab | hab
  · obtain ⟨d, rfl⟩ := Nat.exists_eq_add_of_le hab
    exact (hs_const hf d a hb fun e o h1 h2 ho hk => by have := h e o ho hk; omega).symm
  · obtain ⟨d, rfl⟩ := Nat.exists_eq_add_of_le hab
    exact hs_const hf d b ha fun e o h1 h2 ho hk => by have := h e o ho hk; omega

theorem bits_closed (hck : drawOk ops.toList ov = true) {listed : Array Bool} (hc : ∀ (i : Nat) (o : Oper), ops[i]? = some o → listed.getD i false = true → ∀ k ∈ dpsOf o, listed.getD k false = true) :
    ∀ (m i j : Nat) (o : Oper), i ≤ m → ops[i]? = some o → (∀ k ∈ dpsOf o, listed.getD k false = true) → (getN (masks ops.toList []) i).testBit j = true → j < i ∧ listed.getD j false = true := by
  intro m
  induction m with
  | zero =>
    intro i j o hi ho hd hb
    have hi0 : i = 0 := by omega
    subst hi0
    obtain ⟨B', b1, b2, b3⟩ := masks_at ops.toList [] 0 o (by simpa using ho)
    simp only [List.length_nil, Nat.zero_add] at b2 b3
    rw [b2] at hb
    obtain ⟨k, k1, k2⟩ := maskOf_bit hb
    have := allLt_ok (ckI_at hck 0 o (by simpa using ho)).1 k k1
    omega
  | succ m ih =>
    intro i j o hi ho hd hb
    obtain ⟨B', b1, b2, b3⟩ := masks_at ops.toList [] i o (by simpa using ho)
    simp only [List.length_nil, Nat.zero_add] at b2 b3
    rw [b2] at hb
    obtain ⟨k, k1, k2⟩ := maskOf_bit hb
    have hlt := allLt_ok (ckI_at hck i o (by simpa using ho)).1 k k1
    rw [Nat.zero_add] at hlt
    have hkl := hd k k1
    rcases k2 with rfl | k2
    · exact ⟨hlt, hkl⟩
    · rw [getN_pre b1 (by omega)] at k2
      have hks : k < ops.size := by have := lt_of_get ho; omega
      have := ih k j ops[k] (by omega) (by simp [hks]) (hc k _ (by simp [hks]) hkl) k2
      exact ⟨by omega, this.2⟩

theorem getD_set {l : Array Bool} {i j : Nat} (h : i < l.size) : (l.setIfInBounds i true).getD j false = true ↔ j = i ∨ l.getD j false = true := by
  rw [Array.getD_eq_getD_getElem?, Array.getD_eq_getD_getElem?, Array.getElem?_setIfInBounds]
  split
  · rename_i e; subst e; simp [h]
  · rename_i e
    constructor
    · exact fun q => .inr q
    · rintro (q | q)
      · exact (e q.symm).elim
      · exact q

theorem draw_any (hck : drawOk ops.toList ov = true) (hf : ∀ (i : Nat) (o : Oper), ops[i]? = some o → Fact C n ops.toList ov i o (envS vs 0 ops.toList i env) (vs i) (hs i) (hs (i + 1)))
    (hq : ∃ envF, LookEq envF (envS vs 0 ops.toList ops.toList.length env) ∧ Q .normal envF (hs ops.size)) :
    ∀ (fuel : Nat) (listed : Array Bool) (todo : List Nat) (a : Act) (w : World) (p : Nat), todo.length ≤ fuel → (∀ i < ops.size, listed.getD i false = true ∨ i ∈ todo) → Inv C n bm ops ov env vs hs H IM0 bs0 w0 listed a w p →
      wpAny C.P .any ops (Post n bm IM0 bs0 w0 H Q) fuel listed a w := by
  have fin : ∀ (listed : Array Bool) (a : Act) (w : World) (p : Nat), (∀ i < ops.size, listed.getD i false = true) → Inv C n bm ops ov env vs hs H IM0 bs0 w0 listed a w p → Post n bm IM0 bs0 w0 H Q .normal a w := by
    intro listed a w p hall hI
    obtain ⟨envF, h1, h2⟩ := hq
    obtain ⟨IM, bs, r1, r2, r3, r4⟩ := hI.rel
    have hp : hs p = hs ops.size := hs_const' hf hI.ple (Nat.le_refl _) fun e o ho hk => by
      have h5 := lt_of_get ho
      have := (hI.before e o ho hk).2 (hall e h5)
      omega
    rw [hp] at r1 r2
    refine ⟨envF, hs ops.size, IM, bs, h2, hI.size, hI.defers, r1, ?_, r2⟩
    intro t v ht
    rw [h1 t] at ht
    rcases envS_look ops.toList 0 _ env t v ht with ⟨j, o, j1, j2, j3, j4⟩ | ⟨j1, j2⟩
    · rw [j4, Nat.zero_add]
      have : j < ops.size := by simpa using j1
      exact r3 j o t (by simpa using j2) (hall j this) j3
    · exact r4 t v j2 fun j o ho hl hd => j1 j o (by simpa using lt_of_get ho) (by simpa using ho) hd
  have noready : ∀ (listed : Array Bool), (∀ i < ops.size, listed.getD i false = true) → Region.ready .any ops listed = [] := by
    intro listed hall
    unfold Region.ready
    rw [List.filter_eq_nil_iff]
    intro i hi
    have hi' : i < ops.size := by simpa using hi
    have h0 := hall i hi'
    have : listed.getD i true = true := by
      rw [Array.getD_eq_getD_getElem?] at h0 ⊢
      cases hx : listed[i]? with
      | none => rw [hx] at h0; cases h0
      | some b => rw [hx] at h0; simpa using h0
    simp [this]
  have all_of : ∀ (listed : Array Bool) (a : Act) (w : World) (p : Nat), Inv C n bm ops ov env vs hs H IM0 bs0 w0 listed a w p → Region.ready .any ops listed = [] → ∀ i < ops.size, listed.getD i false = true := by
    intro listed a w p hI hr i
    induction i using Nat.strongRecOn with
    | _ i ih =>
      intro hi
      cases hb : listed.getD i false with
      | true => rfl
      | false =>
        exfalso
        unfold Region.ready at hr
        rw [List.filter_eq_nil_iff] at hr
        refine hr i (by simpa using hi) ?_
        have hls : i < listed.size := by rw [hI.lsz]; exact hi
        have h1 : listed.getD i true = false := by
          rw [Array.getD_eq_getD_getElem?] at hb ⊢
          simpa [hls] using hb
        have ho : ops[i]? = some ops[i] := by simp [hi]
        rw [h1, ho]
        simp only [Bool.not_false, Option.map_some, Option.getD_some, Bool.true_and]
        rw [Array.all_eq_true']
        intro e he
        cases hbd : Region.binds .any e with
        | false => rfl
        | true =>
          have hlt := allLt_ok (ckI_at hck i ops[i] (by simp [hi])).1 e.on (dpsL_of (by simpa using he) hbd)
          rw [Nat.zero_add] at hlt
          simpa using ih e.on hlt (by omega)
  intro fuel
  induction fuel with
  | zero =>
    intro listed todo a w p hlen hcov hI
    have : todo = [] := List.eq_nil_of_length_eq_zero (by omega)
    subst this
    have hall : ∀ i < ops.size, listed.getD i false = true := fun i hi => (hcov i hi).resolve_right (by simp)
    exact ⟨noready listed hall, fin listed a w p hall hI⟩
  | succ fuel ih =>
    intro listed todo a w p hlen hcov hI
    refine ⟨fun hr => fin listed a w p (all_of listed a w p hI hr) hI, fun i hi => ?_⟩
    unfold Region.ready at hi
    rw [List.mem_filter] at hi
    obtain ⟨hi1, hi2⟩ := hi
    have hin : i < ops.size := by simpa using hi1
    have hls : i < listed.size := by rw [hI.lsz]; exact hin
    have ho : ops[i]? = some ops[i] := by simp [hin]
    rw [ho] at hi2
    simp only [Option.map_some, Option.getD_some, Bool.and_eq_true, Bool.not_eq_true'] at hi2
    obtain ⟨hnl, haft⟩ := hi2
    have hnl' : listed.getD i false = false := by
      rw [Array.getD_eq_getD_getElem?] at hnl ⊢
      simpa [hls] using hnl
    generalize ops[i] = o at ho haft
    have hdl : ∀ k ∈ dpsOf o, listed.getD k false = true := by
      intro k hk
      obtain ⟨e, e1, e2, e3⟩ := dpsL_mem hk
      rw [Array.all_eq_true'] at haft
      have := haft e (by simpa using e1)
      rw [e2, e3] at this
      simpa using this
    have hbit : ∀ j, (getN (masks ops.toList []) i).testBit j = true → j < i ∧ listed.getD j false = true := fun j => bits_closed hck hI.closed i i j o (Nat.le_refl i) ho hdl
    have hoL : ops.toList[i]? = some o := by simpa using ho
    obtain ⟨c1, c2, c3⟩ := ckI_at hck i o hoL
    rw [Nat.zero_add] at c1 c2 c3
    -- two of them in order, or no conflict
    have hdis : ∀ (j : Nat) (q : Oper), ops[j]? = some q → j ≠ i → ∀ t, q.dst = some t → t ∉ dstL o := by
      intro j q hq hne
      have := ckJ_at c3 j q (by simpa using hq) (by omega)
      exact this.1
    have hconf : ∀ (j : Nat) (q : Oper), ops[j]? = some q → j ≠ i → ((∀ t, q.dst = some t → t ∉ namesOf o) ∧ (1 ≤ kindAt ov i o → 2 ≤ kindAt ov j q → False)) ∨
        (j < i ∧ listed.getD j false = true) ∨ (i < j ∧ listed.getD j false = false) := by
      intro j q hq hne
      cases hb : ordB (masks ops.toList []) i j with
      | false =>
        have := (ckJ_at c3 j q (by simpa using hq) (by omega)).2 (by rw [Nat.zero_add]; exact hb)
        rw [Nat.zero_add] at this
        exact .inl this
      | true =>
        unfold ordB at hb
        split at hb
        · rename_i hlt
          have hlt' : i < j := by simpa [Nat.blt_eq] using hlt
          refine .inr (.inr ⟨hlt', ?_⟩)
          cases hl : listed.getD j false with
          | false => rfl
          | true =>
            have := (bits_closed hck hI.closed j j i q (Nat.le_refl j) hq (hI.closed j q hq hl) hb).2
            rw [hnl'] at this; cases this
        · exact .inr (.inl (hbit j hb))
    obtain ⟨IM, bs, r1, r2, r3, r4⟩ := hI.rel
    have hfi := hf i o ho
    -- the slots that it looks at
    have hslot : ∀ (t : Nat) (v : AV), t ∈ namesOf o → look t (envS vs 0 ops.toList i env) = some v → VR IM bs (a.tmps.getD t undef) v := by
      intro t v hm hl
      rcases envS_look ops.toList 0 i env t v hl with ⟨j, q, j1, j2, j3, j4⟩ | ⟨j1, j2⟩
      · rw [j4, Nat.zero_add]
        have hq : ops[j]? = some q := by simpa using j2
        rcases hconf j q hq (by omega) with ⟨h1, _⟩ | ⟨_, h1⟩ | ⟨h1, _⟩
        · exact ((h1 t j3) hm).elim
        · exact r3 j q t hq h1 j3
        · omega
      · refine r4 t v j2 fun j q hq hl' hd => ?_
        rcases Nat.lt_or_ge j i with hlt | hge
        · exact j1 j q hlt (by simpa using hq) hd
        · have hne : j ≠ i := by
            rintro rfl
            rw [hnl'] at hl'; cases hl'
          rcases hconf j q hq hne with ⟨h1, _⟩ | ⟨h1, _⟩ | ⟨_, h1⟩
          · exact (h1 t hd) hm
          · omega
          · rw [h1] at hl'; cases hl'
    have hE : EnvR IM bs a.tmps (restr (envS vs 0 ops.toList i env) (namesOf o)) := fun t v ht => hslot t v (look_restr ht).1 (look_restr ht).2
    -- the guard
    have hguard : ∀ b : Bool, Act1 ops.toList o (envS vs 0 ops.toList i env) b → Region.wanted o (yielded ops a.tmps) = b := by
      intro b hact
      unfold Act1 at hact
      unfold Region.wanted
      split at hact
      · rename_i hg; rw [hg, hact]
      · rename_i j want hg
        obtain ⟨oj, t, a1, a2, a3⟩ := hact
        rw [hg]
        have hj := hbit j (c2 j want hg)
        rw [lat_eq] at a1
        have hoj : ops[j]? = some oj := by simpa using a1
        have hv : VR IM bs (a.tmps.getD t undef) (.bool (if b = true then want else !want)) := by
          rcases envS_look ops.toList 0 i env t _ a3 with ⟨j', q, j1, j2, j3, j4⟩ | ⟨j1, j2⟩
          · rw [j4, Nat.zero_add]
            have hq : ops[j']? = some q := by simpa using j2
            -- the same writer
            have : j' = j := by
              rcases Nat.decEq j' j with hne | he
              · exfalso
                have hjs := (ckJ_at (ckI_at hck j oj (by simpa using hoj)).2.2 j' q (by simpa using hq) (by omega)).1 t j3
                exact hjs (by unfold dstL; rw [a2]; exact List.mem_cons_self)
              · exact he
            subst this
            exact r3 j' oj t hoj hj.2 a2
          · exact (j1 j oj hj.1 (by simpa using hoj) a2).elim
        have hval : a.tmps.getD t undef = .bool (if b = true then want else !want) := by
          generalize a.tmps.getD t undef = q at hv
          cases hv; rfl
        have htl : t < a.tmps.size := by
          rcases Nat.lt_or_ge t a.tmps.size with h | h
          · exact h
          · rw [Array.getD_eq_getD_getElem?, Array.getElem?_eq_none h] at hval
            cases hval
        have hy : yielded ops a.tmps j = some (if b = true then want else !want) := by
          have ht' : a.tmps[t]? = some (.bool (if b = true then want else !want)) := by
            rw [Array.getD_eq_getD_getElem?, Array.getElem?_eq_getElem htl] at hval
            rw [Array.getElem?_eq_getElem htl]
            simpa using hval
          simp [yielded, hoj, a2, ht']
        simp only [hy]
        cases b <;> cases want <;> rfl
    -- afterwards
    have hnext : ∀ (v : Value) (w' : World) (IM' : Imm) (bs' : List Blk) (p' : Nat), p' ≤ ops.size → (∀ (e : Nat) (o' : Oper), ops[e]? = some o' → 2 ≤ kindAt ov e o' → (e < p' ↔ e = i ∨ listed.getD e false = true)) →
        IM.le IM' → bs <+: bs' → WR IM' bs' w' (hs p') → ExtM bm IM0 bs0 w0 H IM' bs' w' (hs p') → VR IM' bs' v (vs i) → wpAny C.P .any ops (Post n bm IM0 bs0 w0 H Q) fuel (listed.setIfInBounds i true) (a.put o.dst v) w' := by
      intro v w' IM' bs' p' hp' hb' hIM hbs hw' hx' hv
      refine ih _ (todo.erase i) _ _ p' ?_ ?_ ?_
      · have := (hcov i hin).resolve_left (by rw [hnl']; simp)
        rw [List.length_erase_of_mem this]
        omega
      · intro j hj
        rw [getD_set hls]
        rcases hcov j hj with h | h
        · exact .inl (.inr h)
        · rcases Nat.decEq j i with hne | he
          · exact .inr ((List.mem_erase_of_ne hne).2 h)
          · exact .inl (.inl he)
      · have hdt : ∀ t, o.dst = some t → t < a.tmps.size := fun t ht => by rw [hI.size]; exact hfi.lt t ht
        refine ⟨?_, ?_, ?_, hp', ?_, ?_, IM', bs', hw', hx', ?_, ?_⟩
        · cases hd : o.dst with
          | none => exact hI.size
          | some t => simpa [Act.put] using hI.size
        · cases hd : o.dst with
          | none => exact hI.defers
          | some t => exact hI.defers
        · simpa using hI.lsz
        · intro e o' ho' hk'
          rw [getD_set hls]
          exact hb' e o' ho' hk'
        · intro j q hq hl k hk
          rw [getD_set hls] at hl ⊢
          rcases hl with rfl | hl
          · rw [ho] at hq; cases hq
            exact .inr (hdl k hk)
          · exact .inr (hI.closed j q hq hl k hk)
        · intro j q t hq hl hd
          rw [getD_set hls] at hl
          rcases hl with rfl | hl
          · rw [ho] at hq; cases hq
            rw [hd]
            have := hdt t hd
            simpa [Act.put, Array.getD_eq_getD_getElem?, this] using hv
          · have hne : j ≠ i := by rintro rfl; rw [hnl'] at hl; cases hl
            have hold := (r3 j q t hq hl hd).mono hIM hbs
            cases hod : o.dst with
            | none => exact hold
            | some s =>
              have : s ≠ t := by
                rintro rfl
                exact hdis j q hq hne s hd (by unfold dstL; rw [hod]; exact List.mem_cons_self)
              simpa [Act.put, Array.getD_eq_getD_getElem?, Array.getElem?_setIfInBounds, this] using hold
        · intro t v' hl hno
          have hold := (r4 t v' hl fun j q hq hlj => hno j q hq ((getD_set hls).2 (.inr hlj))).mono hIM hbs
          cases hod : o.dst with
          | none => exact hold
          | some s =>
            have : s ≠ t := by
              rintro rfl
              exact hno i o ho ((getD_set hls).2 (.inl rfl)) hod
            simpa [Act.put, Array.getD_eq_getD_getElem?, Array.getElem?_setIfInBounds, this] using hold
    -- where the heap stands
    have hstage : 1 ≤ kindAt ov i o → (∀ (e : Nat) (q : Oper), ops[e]? = some q → 2 ≤ kindAt ov e q → (e < i ↔ listed.getD e false = true)) := by
      intro hk1 e q hq hk
      rcases Nat.decEq e i with hne | he
      · rcases hconf e q hq hne with ⟨_, h1⟩ | ⟨h1, h2⟩ | ⟨h1, h2⟩
        · exact (h1 hk1 hk).elim
        · exact ⟨fun _ => h2, fun _ => h1⟩
        · exact ⟨fun h => by omega, fun h => by rw [h2] at h; cases h⟩
      · subst he
        exact ⟨fun h => by omega, fun h => by rw [hnl'] at h; cases h⟩
    have hstay : ¬ 2 ≤ kindAt ov i o → ∀ (e : Nat) (o' : Oper), ops[e]? = some o' → 2 ≤ kindAt ov e o' → (e < p ↔ e = i ∨ listed.getD e false = true) := by
      intro hk e o' ho' hk'
      rw [hI.before e o' ho' hk']
      constructor
      · exact fun h => .inr h
      · rintro (rfl | h)
        · rw [ho] at ho'; cases ho'; exact (hk hk').elim
        · exact h
    have hpi : 1 ≤ kindAt ov i o → hs p = hs i := fun hk => hs_const' hf hI.ple (by omega) fun e q hq h2 => by rw [hI.before e q hq h2, hstage hk e q hq h2]
    have hmove : 1 ≤ kindAt ov i o → ∀ (e : Nat) (o' : Oper), ops[e]? = some o' → 2 ≤ kindAt ov e o' → (e < i + 1 ↔ e = i ∨ listed.getD e false = true) := by
      intro hk e o' ho' hk'
      rw [← hstage hk e o' ho' hk']
      omega
    unfold wpOp
    rw [ho]
    dsimp only
    rcases hfi.b with ⟨b1, b2, b3⟩ | ⟨b1, b2, b3⟩
    · rw [hguard true b1, if_pos rfl]
      refine .inl ?_
      rcases Nat.eq_zero_or_pos (kindAt ov i o) with hk0 | hk0
      · refine stepA_ok (b2 hk0 (hs p)) r1 hE ?_
        rintro v w' IM' bs' H' av hv hw' hx' ⟨rfl, rfl⟩
        exact hnext v w' IM' bs' p hI.ple (hstay (by omega)) hx'.imm hx'.pre hw' (r2.transE hx') hv
      · rw [hpi hk0] at r1 r2
        refine stepA_ok (b3 (by omega)) r1 hE ?_
        rintro v w' IM' bs' H' av hv hw' hx' ⟨rfl, rfl⟩
        exact hnext v w' IM' bs' (i + 1) (by omega) (hmove hk0) hx'.imm hx'.pre hw' (r2.transE hx') hv
    · rw [hguard false b1]
      simp only [Bool.false_eq_true, if_false]
      have hjunk : VR IM bs undef (vs i) := by rw [b2]; exact .junk _
      rcases Nat.eq_zero_or_pos (kindAt ov i o) with hk0 | hk0
      · exact hnext undef w IM bs p hI.ple (hstay (by omega)) (Imm.le_refl _) (List.prefix_refl _) r1 r2 hjunk
      · rw [hpi hk0, ← b3] at r1 r2
        exact hnext undef w IM bs (i + 1) (by omega) (hmove hk0) (Imm.le_refl _) (List.prefix_refl _) r1 r2 hjunk
end

theorem WR.drawn {IM : Imm} {bs : List Blk} {w : World} {H : AH} {d : Nat} (h : WR IM bs w H) : WR IM bs { w with drawn := d } H := by
  refine ⟨h.len, h.imm, fun k o B h1 h2 => ?_, h.inj, h.dis⟩
  exact (h.obj k o B h1 h2).mono (w' := { w with drawn := d }) (fun _ => rfl) (Imm.le_refl _) (List.prefix_refl _)

theorem AWP.draw {C : Ctx} {n bm id : Nat} {ops : Array Oper} {Q : APost} {env : Env} {H : AH} (ov : List (Nat × Nat)) (hm : C.P.follows .mixedOrders = true) (hck : drawOk ops.toList ov = true)
    (h : drawA C n ops.toList ov (Q .normal) 0 ops.toList env H) : AWP C.P n bm (.region id ops true) Q env H := by
  intro IM bs w a h1 h2 h3 h4
  obtain ⟨vs, hs, g1, g2, g3⟩ := extract ops.toList 0 env H h
  simp only [Nat.zero_add] at g2 g3
  have hsz : ops.toList.length = ops.size := by simp
  refine wp_region_any hm (draw_any (vs := vs) (hs := hs) (env := env) (H := H) (n := n) (bm := bm) (IM0 := IM) (bs0 := bs) (w0 := w) hck (fun i o ho => g2 i o (by simpa using ho)) (by rw [hsz] at g3 ⊢; exact g3) ops.size _ (List.range ops.size) a _ 0 (by simp) (fun i hi => .inr (by simpa using hi)) ?_)
  have hno : ∀ j, (Array.replicate ops.size false).getD j false = false := by
    intro j
    rw [Array.getD_eq_getD_getElem?, Array.getElem?_replicate]
    split <;> rfl
  refine ⟨h1, h2, by simp, by omega, fun e o _ _ => (by rw [hno]; simp), fun i o _ hl => (by rw [hno] at hl; cases hl), IM, bs, (by rw [g1]; exact h3.drawn), ?_, fun j o t _ hl => (by rw [hno] at hl; cases hl), fun t v ht _ => h4 t v ht⟩
  rw [g1]
  exact ⟨rfl, rfl, rfl, Nat.le_refl _, Imm.le_refl _, List.take_prefix _ _, fun _ _ _ => rfl, fun _ _ h => .inl h, fun k o B h1 h2 h3 => .inr ⟨k, o, B, h1, h2, h3, rfl⟩⟩

end Go.Abs
end
