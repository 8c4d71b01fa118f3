import Derived.Test.YtpignhcdfioldaaAm3

section
set_option autoImplicit false
set_option linter.unusedVariables false
set_option linter.unusedSimpArgs false
namespace Go.Abs
open Go

/-! ### The end of a function: rows are told as lists, what is left over is forgotten -/

def AObj.frz : AObj → Bool
  | .row _ _ => true
  | .rowA _ => true
  | _ => false

def killF (m : Nat) : Nat → AH → AH
  | _, [] => []
  | i, o :: r => (match Nat.ble m i, o.frz with
    | true, true => .dead
    | _, _ => o) :: killF m (i + 1) r

theorem killF_at {m : Nat} : ∀ {H : AH} {i k : Nat} {o : AObj}, (killF m i H)[k]? = some o → o = .dead ∨ (H[k]? = some o ∧ (o.frz = true → i + k < m))
  | [], i, k, o, h => by simp [killF] at h
  | p :: r, i, 0, o, h => by
    simp only [killF, List.getElem?_cons_zero, Option.some.injEq] at h
    split at h
    · exact .inl h.symm
    · rename_i hne
      subst h
      refine .inr ⟨rfl, fun hf => ?_⟩
      rcases Nat.lt_or_ge i m with hlt | hge
      · exact hlt
      · exact (hne (Nat.ble_eq_true_of_le hge) hf).elim
  | p :: r, i, k + 1, o, h => by
    simp only [killF, List.getElem?_cons_succ] at h
    rcases killF_at h with h | ⟨h1, h2⟩
    · exact .inl h
    · exact .inr ⟨by simpa using h1, fun hf => by have := h2 hf; omega⟩
theorem killF_len {m : Nat} : ∀ {H : AH} {i : Nat}, (killF m i H).length = H.length
  | [], i => rfl
  | o :: r, i => by simp [killF, killF_len]

def Fro (m : Nat) (H : AH) (bs : List Blk) (b : Nat) : Prop := ∃ k o B, m ≤ k ∧ H[k]? = some o ∧ o.frz = true ∧ Claim o B ∧ bs[k]? = some B ∧ B.b = b

open Classical in
noncomputable def imF (m : Nat) (IM : Imm) (bs : List Blk) (w : World) (H : AH) : Imm := fun b =>
  if Fro m H bs b then (match w.heap[b]? with
    | some (.cells c _ _) => some c
    | _ => none) else IM b

theorem imF_in {m : Nat} {IM : Imm} {bs : List Blk} {w : World} {H : AH} {b : Nat} {c : Array Value} {e : TypeId} {fz : Nat × Nat} (hf : Fro m H bs b) (hh : w.heap[b]? = some (.cells c e fz)) : imF m IM bs w H b = some c := by
  unfold imF
  rw [if_pos hf, hh]

theorem WR.freezeAll {IM : Imm} {bs : List Blk} {w : World} {H : AH} (h : WR IM bs w H) (m : Nat) :
    IM.le (imF m IM bs w H) ∧ WR (imF m IM bs w H) bs w (killF m 0 H) ∧ Ext IM bs w H (imF m IM bs w H) bs w (killF m 0 H) := by
  have hle : IM.le (imF m IM bs w H) := by
    intro b c hc
    unfold imF
    rw [if_neg]
    · exact hc
    · rintro ⟨k, o, B, h1, h2, h3, h4, h5, rfl⟩
      rw [h.dis k o B h2 h4 h5] at hc
      cases hc
  have live : ∀ (k : Nat) (o : AObj), (killF m 0 H)[k]? = some o → o.live = true → H[k]? = some o ∧ (o.frz = true → k < m) := by
    intro k o hk hl
    rcases killF_at hk with rfl | ⟨h1, h2⟩
    · cases hl
    · exact ⟨h1, fun hf => by have := h2 hf; omega⟩
  have hnf : ∀ (k : Nat) (o : AObj) (B : Blk), (killF m 0 H)[k]? = some o → Claim o B → bs[k]? = some B → ¬ Fro m H bs B.b := by
    rintro k o B hk hc hB ⟨k', o', B', h1, h2, h3, h4, h5, h6⟩
    obtain ⟨g1, g2⟩ := live k o hk hc.1
    have := h.inj k' k o' o B' B h2 g1 h4 hc h5 hB h6
    subst this
    rw [g1] at h2
    cases h2
    have := g2 h3
    omega
  refine ⟨hle, ⟨by rw [killF_len]; exact h.len, ?_, ?_, ?_, ?_⟩, ⟨rfl, rfl, rfl, Nat.le_refl _, hle, List.prefix_refl _, fun _ _ _ => rfl, ?_, ?_⟩⟩
  · intro b c hc
    unfold imF at hc
    split at hc
    · split at hc
      · rename_i hh; cases hc; exact ⟨_, _, hh⟩
      · cases hc
    · exact h.imm b c hc
  · intro k o B hk hB
    rcases killF_at hk with rfl | ⟨h1, h2⟩
    · trivial
    · exact (h.obj k o B h1 hB).mono (fun _ => rfl) hle (List.prefix_refl _)
  · intro k k' o o' B B' hk hk' hc hc' hB hB' he
    exact h.inj k k' o o' B B' (live k o hk hc.1).1 (live k' o' hk' hc'.1).1 hc hc' hB hB' he
  · intro k o B hk hc hB
    unfold imF
    rw [if_neg (hnf k o B hk hc hB)]
    exact h.dis k o B (live k o hk hc.1).1 hc hB
  · intro b c hc
    unfold imF at hc
    split at hc
    · rename_i hf
      obtain ⟨k, o, B, h1, h2, h3, h4, h5, h6⟩ := hf
      exact .inr (.inr ⟨k, o, B, h2, h4, h5, h6⟩)
    · exact .inl hc
  · intro k o B hk hc hB
    exact .inr ⟨k, o, B, (live k o hk hc.1).1, hc, hB, rfl⟩

mutual
/-- What may be said of a value at the end. -/
inductive Tells (m : Nat) (H : AH) : AV → AV → Prop
  | closed (v : AV) (h : v.und m = true) : Tells m H v v
  | row (k off n : Nat) (u : U) (xs : List (El u)) (hm : m ≤ k) (hk : ath H k = some (.row u xs)) (hn : off + n ≤ xs.length) : Tells m H (.ref k off n) (.isl u ((xs.drop off).take n))
  | all (k n : Nat) (u : U) (xs : List (El u)) (hm : m ≤ k) (hk : ath H k = some (.row u xs)) (hn : n = xs.length) : Tells m H (.ref k 0 n) (.isl u xs)
  | rows (k n : Nat) (u : U) (cs : List AV) (xs : List (List (El u))) (hm : m ≤ k) (hk : ath H k = some (.rowA cs)) (hn : n = xs.length) (hc : TellsL m H cs (xs.map fun x => .isl u x)) : Tells m H (.ref k 0 n) (.isl (.list u) xs)
  | nil (u : U) : Tells m H .nilsl (.isl u [])
  | fsl (u : U) (xs : List (El u)) : Tells m H (.fsl u xs) (.isl u xs)
  | tup (vs xs : List AV) (h : TellsL m H vs xs) : Tells m H (.tup vs) (.tup xs)
  | agg (vs xs : List AV) (h : TellsL m H vs xs) : Tells m H (.agg vs) (.agg xs)
inductive TellsL (m : Nat) (H : AH) : List AV → List AV → Prop
  | nil : TellsL m H [] []
  | cons (a b : AV) (r s : List AV) (h : Tells m H a b) (h' : TellsL m H r s) : TellsL m H (a :: r) (b :: s)
end

theorem tells_row {m : Nat} {IM : Imm} {bs : List Blk} {w : World} {H : AH} (h : WR IM bs w H) {k off n : Nat} {u : U} {xs : List (El u)} (hm : m ≤ k) (hk : ath H k = some (.row u xs)) (hn : off + n ≤ xs.length)
    (r : Value) (hr : VR IM bs r (.ref k off n)) : VR (imF m IM bs w H) bs r (.isl u ((xs.drop off).take n)) := by
  rw [ath_eq] at hk
  have hB : ∃ B, bs[k]? = some B := ⟨bs[k]'(by have := h.len; have := lt_of_getL hk; omega), List.getElem?_eq_getElem _⟩
  obtain ⟨B, hB⟩ := hB
  rcases h.obj k _ B hk hB with ⟨hz, hc0, hxs⟩ | ⟨hsz, cur, e, fz, hheap, hfz, hcur, hcap, hv⟩
  · subst hxs
    simp at hn
    obtain ⟨rfl, rfl⟩ := hn
    cases hr with
    | ref0 => exact .isl0 u _ _
    | ref => exact .isl0 u _ _
  · have hcl : Claim (.row u xs) B := ⟨rfl, by rw [hsz]; exact Nat.ne_of_gt u.sz_pos⟩
    have him : imF m IM bs w H B.b = some cur := imF_in ⟨k, _, B, hm, hk, rfl, hcl, hB, rfl⟩ hheap
    cases hr with
    | ref0 => rw [List.take_zero]; exact .isl0 u _ _
    | ref _ _ _ B' hB' hz' hle' =>
      rw [hB] at hB'
      cases hB'
      have hl : ((xs.drop off).take n).length = n := by rw [List.length_take, List.length_drop]; omega
      have := VR.isl (IM := imF m IM bs w H) (bs := bs) u ((xs.drop off).take n) B.b (off * B.sz) (B.cap - off) (by rw [hl]; omega) cur him
        (by rw [hl, hcur, hsz, ← Nat.add_mul]; exact Nat.mul_le_mul_right _ (by omega)) (fun i x j c hx hc => by
          have hx' : xs[off + i]? = some x := by
            rw [List.getElem?_take] at hx
            split at hx
            · rwa [List.getElem?_drop] at hx
            · cases hx
          have := hv (off + i) j c (lt_of_getL hx') (by show (enc u (xs.getD (off + i) (dflt u))).cells[j]? = some c; rw [List.getD_eq_getElem?_getD, hx']; exact hc)
          rw [hsz, ← Nat.add_mul]
          exact this.mono (h.freezeAll m).1 (List.prefix_refl _))
      rw [hl] at this
      exact this

mutual
theorem Tells.ok {m : Nat} {IM : Imm} {bs : List Blk} {w : World} {H : AH} (h : WR IM bs w H) : ∀ {a b : AV}, Tells m H a b → (∀ v, VR IM bs v a → VR (imF m IM bs w H) bs v b) ∧ b.und m = true
  | _, _, .closed v hv => ⟨fun r hr => hr.mono (h.freezeAll m).1 (List.prefix_refl _), hv⟩
  | _, _, .row k off n u xs hm hk hn => ⟨tells_row h hm hk hn, rfl⟩
  | _, _, .all k n u xs hm hk hn => by
    subst hn
    refine ⟨fun r hr => ?_, rfl⟩
    have := tells_row (off := 0) h hm hk (by omega) r hr
    rwa [List.drop_zero, List.take_length] at this
  | _, _, .rows k n u cs xs hm hk hn hc => ⟨fun r hr => by
      rw [ath_eq] at hk
      have hB : ∃ B, bs[k]? = some B := ⟨bs[k]'(by have := h.len; have := lt_of_getL hk; omega), List.getElem?_eq_getElem _⟩
      obtain ⟨B, hB⟩ := hB
      obtain ⟨hsz, cur, e, fz, hheap, hfz, hcur, hcap, hv⟩ := h.obj k _ B hk hB
      have hlen : cs.length = xs.length := by simpa using (TellsL.ok h hc).1
      have hcl : Claim (.rowA cs) B := ⟨rfl, by rw [hsz]; decide⟩
      have him : imF m IM bs w H B.b = some cur := imF_in ⟨k, _, B, hm, hk, rfl, hcl, hB, rfl⟩ hheap
      cases hr with
      | ref0 =>
        have : xs = [] := List.eq_nil_of_length_eq_zero hn.symm
        subst this
        exact .isl0 _ _ _
      | ref _ _ _ B' hB' hz' hle' =>
        rw [hB] at hB'
        cases hB'
        have := VR.isl (IM := imF m IM bs w H) (bs := bs) (.list u) xs B.b 0 (B.cap - 0) (by omega) cur him
          (by rw [hcur, Nat.zero_add]; show xs.length * 1 ≤ _; omega) (fun i x j c hx hc' => by
            have hi := lt_of_getL hx
            have hj : j = 0 ∧ c = .isl u x := by
              cases j with
              | zero => simp [enc, AV.cells] at hc'; exact ⟨rfl, hc'.symm⟩
              | succ j => simp [enc, AV.cells] at hc'
            obtain ⟨rfl, rfl⟩ := hj
            have h1 := hv i 0 (cs.getD i .junk) (by omega) (by simp)
            have h2 := (TellsL.ok h hc).2.2 i (cs.getD i .junk) (.isl u x) (by rw [List.getD_eq_getElem?_getD, List.getElem?_eq_getElem (by omega)]; rfl) (by simp [hx])
            rw [Nat.zero_add]
            exact h2 _ h1)
        rw [← hn] at this
        simpa using this, rfl⟩
  | _, _, .nil u => ⟨fun r hr => by cases hr; exact .isl0 u _ _, rfl⟩
  | _, _, .fsl u xs => ⟨fun r hr => by
      have hle := (h.freezeAll m).1
      cases hr with
      | fsl0 => exact .isl0 u _ _
      | fsl _ _ b o c hm hb hv => exact .isl u xs b o _ (Nat.le_refl _) c (hle _ _ hm) hb fun i x j d h1 h2 => (hv i x j d h1 h2).mono hle (List.prefix_refl _), rfl⟩
  | _, _, .tup vs xs hl => ⟨fun r hr => by
      obtain ⟨g1, g2, g3⟩ := TellsL.ok h hl
      cases hr with
      | tup _ as hs hv =>
        refine .tup _ _ (by rw [hs, g1]) fun j c hc => ?_
        have hj : j < vs.length := by rw [g1]; exact lt_of_getL hc
        exact g3 j vs[j] c (by simp [hj]) hc _ (hv j _ (by simp [hj])), by
      have := (TellsL.ok h hl).2.1
      simpa [AV.und] using this⟩
  | _, _, .agg vs xs hl => ⟨fun r hr => by
      obtain ⟨g1, g2, g3⟩ := TellsL.ok h hl
      cases hr with
      | agg _ as hs hv =>
        refine .agg _ _ (by rw [hs, g1]) fun j c hc => ?_
        have hj : j < vs.length := by rw [g1]; exact lt_of_getL hc
        exact g3 j vs[j] c (by simp [hj]) hc _ (hv j _ (by simp [hj])), by
      have := (TellsL.ok h hl).2.1
      simpa [AV.und] using this⟩
theorem TellsL.ok {m : Nat} {IM : Imm} {bs : List Blk} {w : World} {H : AH} (h : WR IM bs w H) : ∀ {as cs : List AV}, TellsL m H as cs → as.length = cs.length ∧ undL m cs = true ∧
    ∀ (i : Nat) (a b : AV), as[i]? = some a → cs[i]? = some b → ∀ v, VR IM bs v a → VR (imF m IM bs w H) bs v b
  | _, _, .nil => ⟨rfl, rfl, fun i a b h => by simp at h⟩
  | _, _, .cons a b r s h1 h2 => by
    obtain ⟨g1, g2, g3⟩ := TellsL.ok h h2
    obtain ⟨f1, f2⟩ := Tells.ok h h1
    refine ⟨by simp [g1], by rw [undL, f2, g2]; rfl, fun i x y hx hy => ?_⟩
    cases i with
    | zero => simp at hx hy; subst hx; subst hy; exact f1
    | succ i => exact g3 i x y (by simpa using hx) (by simpa using hy)
end

/-- The end: this value, and these objects of the caller's. -/
structure Done (m : Nat) (R : AV → AH → Prop) (v : AV) (H : AH) : Prop where
  h : ∃ X H0, Tells m H v X ∧ takeH m H = H0 ∧ H0.length = m ∧ undH m H0 = true ∧ R X H0

theorem Done.mk' {m : Nat} {R : AV → AH → Prop} {v : AV} {H : AH} (X : AV) (H0 : AH) (h1 : Tells m H v X) (h2 : takeH m H = H0) (h3 : H0.length = m) (h4 : undH m H0 = true) (h5 : R X H0) : Done m R v H := ⟨X, H0, h1, h2, h3, h4, h5⟩

theorem killF_take {m : Nat} : ∀ (H : AH) (i k : Nat), i + k ≤ m → takeH k (killF m i H) = takeH k H
  | H, i, 0, h => rfl
  | [], i, k + 1, h => rfl
  | o :: r, i, k + 1, h => by
    simp only [killF, takeH]
    rw [killF_take r (i + 1) k (by omega)]
    have : Nat.ble m i = false := by
      cases hb : Nat.ble m i with
      | false => rfl
      | true => have := Nat.le_of_ble_eq_true hb; omega
    rw [this]

theorem EvR.done {C : Ctx} {g : FuncId} {as : List AV} {H : AH} {R : AV → AH → Prop} (h : EvR C g as H fun v H' => Done H.length R v H') : EvR C g as H R := by
  refine h.conv ?_
  rintro v H' ⟨X, H0, h1, h2, h3, h4, h5⟩ hle
  refine ⟨X, H0, ?_, h5⟩
  intro IM bs w r hw hv hb
  obtain ⟨g1, g2, g3⟩ := hw.freezeAll H.length
  obtain ⟨f1, f2⟩ := Tells.ok hw h1
  have hk := killF_take (m := H.length) H' 0 H.length (by omega)
  rw [h2, takeH_eq] at hk
  have hw' := g2.take H.length (by rw [hk]; exact undH_mem h4)
  rw [hk] at hw'
  refine ⟨_, bs.take H.length, hw', (f1 r hv).take _ f2, ?_, by omega⟩
  intro IM0 bs0 w0 H00 e1 e2 hx
  have := (hx.trans g3).take e1 H.length (by omega)
  rwa [hk] at this

theorem pu_of {C : Ctx} {g : FuncId} {fn : Func} {as : List AV} {X : AV} (hf : C.P.funcs[g]? = some fn) (hb : fn.body.isSome = true) (hn : (fn.name == "runtime.NumGoroutine") = false)
    (hle : Nat.ble as.length fn.ntmps = true) (h : AwM C fn.ntmps 0 (bodyOf fn) (retQ C fn.results.toList fun v H' => Fin (Tells 0 H' v X)) (parE 0 as) []) : Pu C g as X := by
  refine EvR.done ?_
  have := ev_of hf hb hn hle (H := []) (R := fun v H' => Tells 0 H' v X) h
  refine ⟨this.1, fun IM bs w vs hw hvs => (this.2 IM bs w vs hw hvs).mono ?_⟩
  rintro e w' ⟨r, IM', bs', H', av, he, h1, h2, h3, h4⟩
  exact ⟨r, IM', bs', H', av, he, h1, h2, h3, ⟨X, [], h4, rfl, rfl, rfl, rfl, rfl⟩⟩

/-- The same, the value told afterwards. -/
theorem pur_of {C : Ctx} {g : FuncId} {fn : Func} {as : List AV} {R : AV → Prop} (hf : C.P.funcs[g]? = some fn) (hb : fn.body.isSome = true) (hn : (fn.name == "runtime.NumGoroutine") = false)
    (hle : Nat.ble as.length fn.ntmps = true) (h : AwM C fn.ntmps 0 (bodyOf fn) (retQ C fn.results.toList fun v H' => Fin (∃ X, Tells 0 H' v X ∧ R X)) (parE 0 as) []) : EvR C g as [] fun v H' => R v ∧ v.und 0 = true ∧ H' = [] := by
  have := ev_of hf hb hn hle (H := []) (R := fun v H' => ∃ X, Tells 0 H' v X ∧ R X) h
  have h2 : EvR C g as [] fun v H' => Done 0 (fun X H'' => R X ∧ X.und 0 = true ∧ H'' = []) v H' := by
    refine ⟨this.1, fun IM bs w vs hw hvs => (this.2 IM bs w vs hw hvs).mono ?_⟩
    rintro e w' ⟨r, IM', bs', H', av, he, h1, h2, h3, X, h4, h5⟩
    exact ⟨r, IM', bs', H', av, he, h1, h2, h3, ⟨X, [], h4, rfl, rfl, rfl, h5, (Tells.ok h2 h4).2, rfl⟩⟩
  exact EvR.done h2

end Go.Abs
namespace Go.Abs
theorem Tells.eq {m : Nat} {H : AH} {v X : AV} (h : v = X) (hu : v.und m = true) : Tells m H v X := by subst h; exact .closed v hu
end Go.Abs
namespace Go.Abs
theorem bd {p q : Prop} [Decidable p] [Decidable q] (h : p ↔ q) : decide p = decide q := decide_eq_decide.2 h
theorem bf {q : Prop} [Decidable q] (h : ¬ q) : false = decide q := (decide_eq_false h).symm
theorem bt {q : Prop} [Decidable q] (h : q) : true = decide q := (decide_eq_true h).symm
end Go.Abs
namespace Go.Abs
theorem Ovf.split {c p q : Prop} (h1 : c → p) (h2 : ¬ c → q) : Ovf c p q := by
  rcases Classical.em c with h | h
  · exact .ok h (h1 h)
  · exact .wrap (h2 h)
/-- A function of plain values, that hands back one of these. -/
def Pr (C : Ctx) (g : FuncId) (as : List AV) (R : AV → Prop) : Prop := EvR C g as [] fun v H' => R v ∧ v.und 0 = true ∧ H' = []
theorem pr_of {C : Ctx} {g : FuncId} {fn : Func} {as : List AV} {R : AV → Prop} (hf : C.P.funcs[g]? = some fn) (hb : fn.body.isSome = true) (hn : (fn.name == "runtime.NumGoroutine") = false)
    (hle : Nat.ble as.length fn.ntmps = true) (h : AwM C fn.ntmps 0 (bodyOf fn) (retQ C fn.results.toList fun v H' => Fin (∃ X, Tells 0 H' v X ∧ R X)) (parE 0 as) []) : Pr C g as R := pur_of hf hb hn hle h
theorem CallA.pr {C : Ctx} {g : FuncId} {as : List AV} {H : AH} {K : AV → AH → Prop} {R : AV → Prop} (h : Pr C g as R) (ha : undL 0 as = true) (hk : ∀ v, R v → K v H) : CallA C g as H K :=
  ⟨_, EvR.frame h ha H, fun v H' ⟨e1, e2⟩ => by rw [e2]; exact hk v e1⟩
theorem Pu.of {C : Ctx} {g : FuncId} {as : List AV} {v v' : AV} (h : Pu C g as v) (e : v = v') : Pu C g as v' := e ▸ h
end Go.Abs
end

section
set_option autoImplicit false
set_option linter.unusedVariables false
set_option linter.unusedSimpArgs false
namespace Go.Abs
open Go

/-- A call that touches just the first of our objects. -/
theorem EvR.frameP {C : Ctx} {g : FuncId} {as : List AV} {H0 : AH} {R : AV → AH → Prop} (h : EvR C g as H0 R) (ha : undL H0.length as = true) (h0 : undH H0.length H0 = true)
    (hR : ∀ v H', R v H' → H'.length = H0.length ∧ v.und H0.length = true ∧ undH H0.length H' = true) (F : AH) : EvR C g as (H0 ++ F) fun v H2 => ∃ H', R v H' ∧ H2 = H' ++ F := by
  refine ⟨h.1, fun IM bs w vs hw hvs => ?_⟩
  have hlen : bs.length = H0.length + F.length := by rw [hw.len, List.length_append]
  have hw0 : WR IM (bs.take H0.length) w H0 := by
    have := hw.take H0.length (by rw [List.take_left']; exact undH_mem h0; rfl)
    rwa [List.take_left' rfl] at this
  refine (h.2 IM _ w vs hw0 ⟨hvs.1, fun j c hc => (hvs.2 j c hc).take _ (undL_mem ha c (List.mem_of_getElem? hc))⟩).mono ?_
  rintro e w' ⟨r, IM', bs', H', av, rfl, h1, h2, h3, h4⟩
  obtain ⟨r1, r2, r3⟩ := hR av H' h4
  have hbs : bs' = bs.take H0.length := by
    have hp := h3.pre
    have : bs'.length = (bs.take H0.length).length := by
      rw [h2.len, r1, List.length_take, hlen]; omega
    exact (hp.eq_of_length this.symm).symm
  subst hbs
  have hleft : ∀ (k : Nat) (B : Blk), k < H0.length → (bs[k]? = some B ↔ (bs.take H0.length)[k]? = some B) := by
    intro k B hk
    rw [List.getElem?_take, if_pos hk]
  have hF : ∀ (k : Nat) (o : AObj), H0.length ≤ k → (H' ++ F)[k]? = some o → (H0 ++ F)[k]? = some o := by
    intro k o hk ho
    rw [List.getElem?_append_right (by omega)] at ho ⊢
    rwa [r1] at ho
  have hL : ∀ (k : Nat) (o : AObj), k < H0.length → (H' ++ F)[k]? = some o → H'[k]? = some o := by
    intro k o hk ho
    rwa [List.getElem?_append_left (by omega)] at ho
  have hsame : ∀ (k : Nat) (o : AObj) (B : Blk), H0.length ≤ k → (H0 ++ F)[k]? = some o → Claim o B → bs[k]? = some B → w'.heap[B.b]? = w.heap[B.b]? := by
    intro k o B hk ho hc hB
    refine h3.frame B.b ((hw.obj k o B ho hB).there hc) fun k' o' B' ho' hc' hB' he => ?_
    have hk' : k' < H0.length := lt_of_getL ho'
    have := hw.inj k k' o o' B B' ho (by rw [List.getElem?_append_left hk']; exact ho') hc hc' hB ((hleft k' B' hk').2 hB') he.symm
    omega
  have hnew : ∀ (k : Nat) (o : AObj) (B : Blk), k < H0.length → H'[k]? = some o → Claim o B → bs[k]? = some B → ∀ (k2 : Nat) (o2 : AObj) (B2 : Blk), H0.length ≤ k2 → (H0 ++ F)[k2]? = some o2 → Claim o2 B2 → bs[k2]? = some B2 → B.b ≠ B2.b := by
    intro k o B hk ho hc hB k2 o2 B2 hk2 ho2 hc2 hB2 he
    rcases h3.own k o B ho hc ((hleft k B hk).1 hB) with h | ⟨k0, o0, B0, g1, g2, g3, g4⟩
    · have := (hw.obj k2 o2 B2 ho2 hB2).there hc2; omega
    · have hk0 : k0 < H0.length := lt_of_getL g1
      have := hw.inj k0 k2 o0 o2 B0 B2 (by rw [List.getElem?_append_left hk0]; exact g1) ho2 g2 hc2 ((hleft k0 B0 hk0).2 g3) hB2 (by rw [g4, he])
      omega
  have hpre : bs.take H0.length <+: bs := List.take_prefix _ _
  refine ⟨r, IM', bs, H' ++ F, av, rfl, h1.mono (Imm.le_refl _) hpre, ⟨by rw [List.length_append, r1, hlen], h2.imm, ?_, ?_, ?_⟩, ⟨h3.os, h3.tape, h3.output, h3.size, h3.imm, List.prefix_refl _, ?_, ?_, ?_⟩, H', h4, rfl⟩
  · intro k o B ho hB
    rcases Nat.lt_or_ge k H0.length with hk | hk
    · exact (h2.obj k o B (hL k o hk ho) ((hleft k B hk).1 hB)).mono (fun _ => rfl) (Imm.le_refl _) hpre
    · have ho' := hF k o hk ho
      exact (hw.obj k o B ho' hB).mono (fun hc => hsame k o B hk ho' hc hB) h3.imm (List.prefix_refl _)
  · intro k k' o o' B B' ho ho' hc hc' hB hB' he
    rcases Nat.lt_or_ge k H0.length with hk | hk <;> rcases Nat.lt_or_ge k' H0.length with hk' | hk'
    · exact h2.inj k k' o o' B B' (hL k o hk ho) (hL k' o' hk' ho') hc hc' ((hleft k B hk).1 hB) ((hleft k' B' hk').1 hB') he
    · exact (hnew k o B hk (hL k o hk ho) hc hB k' o' B' hk' (hF k' o' hk' ho') hc' hB' he).elim
    · exact (hnew k' o' B' hk' (hL k' o' hk' ho') hc' hB' k o B hk (hF k o hk ho) hc hB he.symm).elim
    · exact hw.inj k k' o o' B B' (hF k o hk ho) (hF k' o' hk' ho') hc hc' hB hB' he
  · intro k o B ho hc hB
    rcases Nat.lt_or_ge k H0.length with hk | hk
    · exact h2.dis k o B (hL k o hk ho) hc ((hleft k B hk).1 hB)
    · have ho' := hF k o hk ho
      cases hI : IM' B.b with
      | none => rfl
      | some m =>
        rcases h3.fresh _ _ hI with h | h | ⟨k0, o0, B0, g1, g2, g3, g4⟩
        · rw [hw.dis k o B ho' hc hB] at h; cases h
        · have := (hw.obj k o B ho' hB).there hc; omega
        · have hk0 : k0 < H0.length := lt_of_getL g1
          have := hw.inj k0 k o0 o B0 B (by rw [List.getElem?_append_left hk0]; exact g1) ho' g2 hc ((hleft k0 B0 hk0).2 g3) hB g4
          omega
  · intro b hb hn
    refine h3.frame b hb fun k o B ho hc hB => ?_
    have hk : k < H0.length := lt_of_getL ho
    exact hn k o B (by rw [List.getElem?_append_left hk]; exact ho) hc ((hleft k B hk).2 hB)
  · intro b m hm
    rcases h3.fresh b m hm with h | h | ⟨k0, o0, B0, g1, g2, g3, g4⟩
    · exact .inl h
    · exact .inr (.inl h)
    · have hk0 : k0 < H0.length := lt_of_getL g1
      exact .inr (.inr ⟨k0, o0, B0, by rw [List.getElem?_append_left hk0]; exact g1, g2, (hleft k0 B0 hk0).2 g3, g4⟩)
  · intro k o B ho hc hB
    rcases Nat.lt_or_ge k H0.length with hk | hk
    · rcases h3.own k o B (hL k o hk ho) hc ((hleft k B hk).1 hB) with h | ⟨k0, o0, B0, g1, g2, g3, g4⟩
      · exact .inl h
      · have hk0 : k0 < H0.length := lt_of_getL g1
        exact .inr ⟨k0, o0, B0, by rw [List.getElem?_append_left hk0]; exact g1, g2, (hleft k0 B0 hk0).2 g3, g4⟩
    · exact .inr ⟨k, o, B, hF k o hk ho, hc, hB, rfl⟩

end Go.Abs
end

section
set_option autoImplicit false
set_option linter.unusedVariables false
set_option linter.unusedSimpArgs false
namespace Go.Abs
open Go

theorem inK64_u8 (x : UInt8) : inK .i64 (x.toNat : Int) = true := by
  have := x.toNat_lt
  simp only [inK, decide_eq_true_eq]
  omega
theorem inKu64_u8 (x : UInt8) : inK .u64 (x.toNat : Int) = true := by
  have := x.toNat_lt
  simp only [inK, decide_eq_true_eq]
  omega
theorem and255 (a : Int) : 0 ≤ IntKind.u64.wrap ((BitVec.ofInt 64 a &&& BitVec.ofInt 64 255).toNat) ∧ IntKind.u64.wrap ((BitVec.ofInt 64 a &&& BitVec.ofInt 64 255).toNat) ≤ 255 := by
  have h : (BitVec.ofInt 64 a &&& BitVec.ofInt 64 255).toNat ≤ 255 := by
    rw [BitVec.toNat_and]
    exact Nat.and_le_right
  generalize (BitVec.ofInt 64 a &&& BitVec.ofInt 64 255).toNat = q at h
  have : IntKind.u64.wrap (q : Int) = q := inK_wrap (k := .u64) (by simp only [inK, decide_eq_true_eq]; omega)
  rw [this]
  omega
theorem and255k (a : Int) : inK .i64 (IntKind.u64.wrap ((BitVec.ofInt 64 a &&& BitVec.ofInt 64 255).toNat)) = true := by
  have := and255 a
  simp only [inK, decide_eq_true_eq]
  omega

end Go.Abs
end

section
set_option autoImplicit false
set_option linter.unusedVariables false
set_option linter.unusedSimpArgs false
namespace Go.Abs
open Go

/-- The cursor's object. -/
def cur (code : List UInt8) (p s : Int) : AH := [.box [.isl .u8 code, .int .i64 p, .int .u64 s]]

/-- A method of the cursor: it hands back one of these and goes on by no more than so much. -/
def Cu (C : Ctx) (g : FuncId) (args : List AV) (R : AV → Prop) (c : Int) : Prop := ∀ (code : List UInt8) (p s : Int), 0 ≤ p → p + c ≤ 4000000000000000000 →
  EvR C g (.ptr 0 0 0 :: args) (cur code p s) fun v H' => ∃ p' s', R v ∧ v.und 0 = true ∧ p ≤ p' ∧ p' ≤ p + c ∧ H' = cur code p' s'

mutual
theorem und_le' (m : Nat) : ∀ (a : AV), a.und 0 = true → a.und m = true
  | .ptr k i f, h => by simp [AV.und] at h
  | .ref k i f, h => by simp [AV.und] at h
  | .mp k, h => by simp [AV.und] at h
  | .fn f caps, h => by simp only [AV.und] at h ⊢; exact undL_le' m caps h
  | .agg cs, h => by simp only [AV.und] at h ⊢; exact undL_le' m cs h
  | .tup cs, h => by simp only [AV.und] at h ⊢; exact undL_le' m cs h
  | .int _ _, _ => rfl
  | .bool _, _ => rfl
  | .str _, _ => rfl
  | .nilp, _ => rfl
  | .iptr _ _ _ _, _ => rfl
  | .nilsl, _ => rfl
  | .isl _ _, _ => rfl
  | .fsl _ _, _ => rfl
  | .nilmap, _ => rfl
  | .nilfn, _ => rfl
  | .nili, _ => rfl
  | .nni, _ => rfl
  | .junk, _ => rfl
theorem undL_le' (m : Nat) : ∀ (l : List AV), undL 0 l = true → undL m l = true
  | [], _ => rfl
  | a :: r, h => by
    rw [undL, Bool.and_eq_true] at h ⊢
    exact ⟨und_le' m a h.1, undL_le' m r h.2⟩
end
theorem und_le {m : Nat} {a : AV} (h : a.und 0 = true) : a.und m = true := und_le' m a h

theorem CallA.cu {C : Ctx} {g : FuncId} {args : List AV} {R : AV → Prop} {c : Int} {code : List UInt8} {p s : Int} {F : AH} {K : AV → AH → Prop} (h : Cu C g args R c) (h0 : 0 ≤ p) (h1 : p + c ≤ 4000000000000000000)
    (ha : undL 1 args = true) (hk : ∀ v p' s', R v → p ≤ p' → p' ≤ p + c → K v (cur code p' s' ++ F)) : CallA C g (.ptr 0 0 0 :: args) (cur code p s ++ F) K := by
  refine ⟨_, (h code p s h0 h1).frameP (by show undL 1 (.ptr 0 0 0 :: args) = true; rw [undL, ha]; rfl) rfl ?_ F, ?_⟩
  · rintro v H' ⟨p', s', h2, h3, h4, h5, rfl⟩
    exact ⟨rfl, und_le h3, rfl⟩
  · rintro v H2 ⟨H', ⟨p', s', h2, h3, h4, h5, rfl⟩, rfl⟩
    exact hk v p' s' h2 h4 h5

/-- The end of such a method. -/
theorem Done.cu {v : AV} {H : AH} {R : AV → Prop} {code : List UInt8} {p c : Int} (X : AV) (p' s' : Int) (h1 : Tells 1 H v X) (h2 : takeH 1 H = cur code p' s') (h3 : R X) (h4 : X.und 0 = true) (h5 : p ≤ p') (h6 : p' ≤ p + c) :
    Done 1 (fun v H' => ∃ p' s', R v ∧ v.und 0 = true ∧ p ≤ p' ∧ p' ≤ p + c ∧ H' = cur code p' s') v H :=
  ⟨X, cur code p' s', h1, h2, rfl, rfl, p', s', h3, h4, h5, h6, rfl⟩

/-- A function that makes its cursor: alone on the heap. -/
theorem cu_of {C : Ctx} {g : FuncId} {fn : Func} {args : List AV} {R : AV → Prop} {c : Int} (hf : C.P.funcs[g]? = some fn) (hb : fn.body.isSome = true) (hn : (fn.name == "runtime.NumGoroutine") = false) (hle : Nat.ble (args.length + 1) fn.ntmps = true)
    (h : ∀ (code : List UInt8) (p s : Int), 0 ≤ p → p + c ≤ 4000000000000000000 → AwM C fn.ntmps 1 (bodyOf fn) (retQ C fn.results.toList fun v H' => Fin (Done 1 (fun v H' => ∃ p' s', R v ∧ v.und 0 = true ∧ p ≤ p' ∧ p' ≤ p + c ∧ H' = cur code p' s') v H')) (parE 0 (.ptr 0 0 0 :: args)) (cur code p s)) :
    Cu C g args R c := by
  intro code p s h0 h1
  refine EvR.done ?_
  exact ev_of hf hb hn (by simpa using hle) (h code p s h0 h1)

/-- An argument list, a row of ours told as one that does not turn. -/
def FrzL (k : Nat) (u : U) (xs : List (El u)) : List AV → List AV → Prop
  | [], [] => True
  | a :: r, b :: s => (a = b ∨ (∃ off n, a = .ref k off n ∧ off + n ≤ xs.length ∧ b = .isl u ((xs.drop off).take n)) ∨ (∃ n, a = .ref k 0 n ∧ n = xs.length ∧ b = .isl u xs)) ∧ FrzL k u xs r s
  | _, _ => False

theorem FrzL.at {k : Nat} {u : U} {xs : List (El u)} : ∀ {as as' : List AV}, FrzL k u xs as as' → as.length = as'.length ∧ ∀ (j : Nat) (b : AV), as'[j]? = some b → ∃ a, as[j]? = some a ∧
    (a = b ∨ (∃ off n, a = .ref k off n ∧ off + n ≤ xs.length ∧ b = .isl u ((xs.drop off).take n)))
  | [], [], _ => ⟨rfl, fun j b h => by simp at h⟩
  | a :: r, b :: s, h => by
    obtain ⟨h1, h2⟩ := FrzL.at h.2
    refine ⟨by simp [h1], fun j c hc => ?_⟩
    cases j with
    | zero =>
      simp at hc
      subst hc
      refine ⟨a, rfl, ?_⟩
      rcases h.1 with h | h | ⟨n, h3, h4, h5⟩
      · exact .inl h
      · exact .inr h
      · exact .inr ⟨0, n, h3, by omega, by rw [h5, h4, List.drop_zero, List.take_length]⟩
    | succ j => exact h2 j c (by simpa using hc)
  | [], b :: s, h => h.elim
  | a :: r, [], h => h.elim

/-- A row of ours goes to a function that takes a list: it does not turn any more. -/
theorem CallA.freeze {C : Ctx} {g : FuncId} {as : List AV} {H : AH} {K : AV → AH → Prop} (as' : List AV) (k : Nat) {u : U} {xs : List (El u)} (hk : ath H k = some (.row u xs)) (hf : FrzL k u xs as as')
    (h : CallA C g as' (put k .dead H) K) : CallA C g as H K := by
  obtain ⟨R, ⟨e1, e2⟩, hk2⟩ := h
  refine ⟨R, ⟨e1, fun IM bs w vs hw hvs => ?_⟩, hk2⟩
  rw [ath_eq] at hk
  obtain ⟨IM', g1, g2, g3⟩ := hw.freeze' hk
  obtain ⟨f1, f2⟩ := hf.at
  rw [← put_eq] at g1 g2
  refine (e2 IM' bs w vs g1 ⟨by rw [hvs.1, f1], fun j b hb => ?_⟩).mono ?_
  · obtain ⟨a, ha, hab⟩ := f2 j b hb
    have hv := hvs.2 j a ha
    rcases hab with rfl | ⟨off, n, rfl, hn, rfl⟩
    · exact hv.mono g2.imm g2.pre
    · exact g3 off n _ hn hv
  · rintro e w' ⟨r, IM2, bs2, H', av, he, h1, h2, h3, h4⟩
    exact ⟨r, IM2, bs2, H', av, he, h1, h2, g2.trans h3, h4⟩

end Go.Abs
end

section
set_option autoImplicit false
set_option linter.unusedVariables false
set_option linter.unusedSimpArgs false
namespace Go.Abs
open Go

/-! ### Objects told by other numbers -/

mutual
def AV.ren (r : List Nat) : AV → AV
  | .ptr k i f => .ptr (getN r k) i f
  | .ref k i f => .ref (getN r k) i f
  | .mp k => .mp (getN r k)
  | .fn f caps => .fn f (renL r caps)
  | .agg cs => .agg (renL r cs)
  | .tup cs => .tup (renL r cs)
  | a => a
def renL (r : List Nat) : List AV → List AV
  | [] => []
  | a :: l => a.ren r :: renL r l
end

def renM (r : List Nat) : List (AV × AV) → List (AV × AV)
  | [] => []
  | (a, b) :: l => (a.ren r, b.ren r) :: renM r l

def AObj.ren (r : List Nat) : AObj → AObj
  | .box cs => .box (renL r cs)
  | .rowA cs => .rowA (renL r cs)
  | .map es => .map (renM r es)
  | .row u xs => .row u xs
  | .dead => .dead

theorem renL_at {r : List Nat} : ∀ {l : List AV} {j : Nat}, (renL r l)[j]? = (l[j]?).map (AV.ren r)
  | [], j => by simp [renL]
  | a :: l, 0 => by simp [renL]
  | a :: l, j + 1 => by simp [renL, renL_at (l := l) (j := j)]
theorem renL_len {r : List Nat} : ∀ {l : List AV}, (renL r l).length = l.length
  | [] => rfl
  | a :: l => by simp [renL, renL_len (l := l)]
theorem renM_at {r : List Nat} : ∀ {l : List (AV × AV)} {j : Nat}, (renM r l)[j]? = (l[j]?).map fun x => (x.1.ren r, x.2.ren r)
  | [], j => by simp [renM]
  | a :: l, 0 => by simp [renM]
  | a :: l, j + 1 => by simp [renM, renM_at (l := l) (j := j)]
theorem renM_len {r : List Nat} : ∀ {l : List (AV × AV)}, (renM r l).length = l.length
  | [] => rfl
  | a :: l => by simp [renM, renM_len (l := l)]

def blks (r : List Nat) (bs : List Blk) : List Blk := r.map fun j => bs.getD j ⟨0, 0, 0⟩
theorem blks_at {r : List Nat} {bs : List Blk} {k : Nat} {B : Blk} (hk : k < r.length) (h : bs[getN r k]? = some B) : (blks r bs)[k]? = some B := by
  unfold blks
  rw [getN_eq, List.getD_eq_getElem?_getD, List.getElem?_eq_getElem hk] at h
  rw [List.getElem?_map, List.getElem?_eq_getElem hk]
  simp only [Option.getD_some] at h
  simp [List.getD_eq_getElem?_getD, h]
theorem blks_of {r : List Nat} {bs : List Blk} {k : Nat} {B : Blk} (h : (blks r bs)[k]? = some B) : k < r.length ∧ B = bs.getD (getN r k) ⟨0, 0, 0⟩ := by
  have hk : k < r.length := by have := lt_of_getL h; simpa [blks] using this
  refine ⟨hk, ?_⟩
  unfold blks at h
  rw [List.getElem?_map, List.getElem?_eq_getElem hk] at h
  rw [getN_eq, List.getD_eq_getElem?_getD (l := r), List.getElem?_eq_getElem hk]
  simpa using h.symm

mutual
theorem VR.ren {IM : Imm} {bs : List Blk} {r : List Nat} : ∀ (a : AV) (v : Value), a.und r.length = true → VR IM bs v (a.ren r) → VR IM (blks r bs) v a
  | .ptr k i f, v, hu, h => by
    simp only [AV.und, Nat.blt_eq] at hu
    simp only [AV.ren] at h
    cases h with
    | ptr _ _ _ B hB => exact .ptr k i f B (blks_at hu hB)
  | .ref k i f, v, hu, h => by
    simp only [AV.und, Nat.blt_eq] at hu
    simp only [AV.ren] at h
    cases h with
    | ref0 _ _ B hB hc a => exact .ref0 k i B (blks_at hu hB) hc a
    | ref _ _ _ B hB hz hl => exact .ref k i f B (blks_at hu hB) hz hl
  | .mp k, v, hu, h => by
    simp only [AV.und, Nat.blt_eq] at hu
    simp only [AV.ren] at h
    cases h with
    | mp _ B hB => exact .mp k B (blks_at hu hB)
  | .fn f caps, v, hu, h => by
    simp only [AV.und] at hu
    simp only [AV.ren] at h
    cases h with
    | fn _ _ cs hs hv =>
      refine .fn f caps cs (by rw [hs, renL_len]) fun j c hc => ?_
      exact VRL.ren caps hu j c hc _ (hv j _ (by rw [renL_at, hc]; rfl))
  | .agg cs, v, hu, h => by
    simp only [AV.und] at hu
    simp only [AV.ren] at h
    cases h with
    | agg _ vs hs hv =>
      refine .agg cs vs (by rw [hs, renL_len]) fun j c hc => ?_
      exact VRL.ren cs hu j c hc _ (hv j _ (by rw [renL_at, hc]; rfl))
  | .tup cs, v, hu, h => by
    simp only [AV.und] at hu
    simp only [AV.ren] at h
    cases h with
    | tup _ vs hs hv =>
      refine .tup cs vs (by rw [hs, renL_len]) fun j c hc => ?_
      exact VRL.ren cs hu j c hc _ (hv j _ (by rw [renL_at, hc]; rfl))
  | .int _ _, v, _, h => h.closed rfl
  | .bool _, v, _, h => h.closed rfl
  | .str _, v, _, h => h.closed rfl
  | .nilp, v, _, h => h.closed rfl
  | .iptr _ _ _ _, v, _, h => h.closed rfl
  | .nilsl, v, _, h => h.closed rfl
  | .isl _ _, v, _, h => h.closed rfl
  | .fsl _ _, v, _, h => h.closed rfl
  | .nilmap, v, _, h => h.closed rfl
  | .nilfn, v, _, h => h.closed rfl
  | .nili, v, _, h => h.closed rfl
  | .nni, v, _, h => h.closed rfl
  | .junk, v, _, h => h.closed rfl
theorem VRL.ren {IM : Imm} {bs : List Blk} {r : List Nat} : ∀ (l : List AV), undL r.length l = true → ∀ (j : Nat) (c : AV), l[j]? = some c → ∀ v, VR IM bs v (c.ren r) → VR IM (blks r bs) v c
  | [], _, j, c, hc, v, h => by simp at hc
  | a :: l, hu, 0, c, hc, v, h => by
    rw [undL, Bool.and_eq_true] at hu
    simp only [List.getElem?_cons_zero, Option.some.injEq] at hc
    subst hc
    exact VR.ren a v hu.1 h
  | a :: l, hu, j + 1, c, hc, v, h => by
    rw [undL, Bool.and_eq_true] at hu
    exact VRL.ren l hu.2 j c (by simpa using hc) v h
end

theorem ObjR.ren {IM : Imm} {bs : List Blk} {w : World} {B : Blk} {r : List Nat} {o : AObj} (hu : o.und r.length = true) (h : ObjR IM bs w B (o.ren r)) : ObjR IM (blks r bs) w B o := by
  cases o with
  | box cs =>
    obtain ⟨h1, h2, cur, e, fz, h3, h4, h5, h6, h7⟩ := h
    rw [renL_len] at h1 h5
    refine ⟨h1, h2, cur, e, fz, h3, h4, h5, h6, fun i j c hi hc => ?_⟩
    have := h7 i j (c.ren r) hi (by show (renL r cs)[j]? = _; rw [renL_at, hc]; rfl)
    rw [renL_len] at this
    exact VRL.ren cs (by simpa [AObj.und] using hu) j c hc _ this
  | row u xs =>
    rcases h with h | ⟨h1, cur, e, fz, h3, h4, h5, h6, h7⟩
    · exact .inl h
    · exact .inr ⟨h1, cur, e, fz, h3, h4, h5, h6, fun i j c hi hc => (h7 i j c hi hc).closed (enc_und 0 u _ c (List.mem_of_getElem? hc))⟩
  | rowA xs =>
    obtain ⟨h1, cur, e, fz, h3, h4, h5, h6, h7⟩ := h
    rw [renL_len] at h6
    refine ⟨h1, cur, e, fz, h3, h4, h5, h6, fun i j c hi hc => ?_⟩
    cases j with
    | succ j => simp at hc
    | zero =>
      simp only [List.getElem?_cons_zero, Option.some.injEq] at hc
      have hx : xs[i]? = some c := by
        rw [List.getElem?_eq_getElem hi]
        rw [List.getD_eq_getElem?_getD, List.getElem?_eq_getElem hi] at hc
        exact congrArg some hc
      have := h7 i 0 (c.ren r) (by rw [renL_len]; exact hi) (by
        show [(renL r xs).getD i .junk][0]? = _
        rw [List.getD_eq_getElem?_getD, renL_at, hx]; rfl)
      exact VRL.ren xs (by simpa [AObj.und] using hu) i c hx _ this
  | map es =>
    obtain ⟨h1, ents, c, h2, h3, h4⟩ := h
    rw [renM_len] at h3
    refine ⟨h1, ents, c, h2, h3, fun i x hx => ?_⟩
    obtain ⟨e, e1, e2, e3⟩ := h4 i _ (by rw [renM_at, hx]; rfl)
    have hm : x.1.und r.length = true ∧ x.2.und r.length = true := by
      simp only [AObj.und, List.all_eq_true, Bool.and_eq_true] at hu
      exact hu x (List.mem_of_getElem? hx)
    exact ⟨e, e1, VR.ren _ _ hm.1 e2, VR.ren _ _ hm.2 e3⟩
  | dead => trivial

def leR (r : List Nat) : Env → Env → Prop
  | [], _ => True
  | (t, a) :: e, env => look t env = some (a.ren r) ∧ leR r e env
theorem leR_look {r : List Nat} : ∀ {e env : Env}, leR r e env → ∀ t a, look t e = some a → look t env = some (a.ren r)
  | [], env, _, t, a, h => by cases h
  | (s, b) :: e, env, hl, t, a, h => by
    unfold look at h
    split at h
    · rename_i q; subst q; cases h; exact hl.1
    · exact leR_look hl.2 t a h

def matchH (r : List Nat) : List Nat → AH → AH → Prop
  | [], [], _ => True
  | j :: js, o :: os, H => ath H j = some (o.ren r) ∧ matchH r js os H
  | _, _, _ => False
theorem matchH_at {r : List Nat} : ∀ {js : List Nat} {os H : AH}, matchH r js os H → js.length = os.length ∧ ∀ (k : Nat) (o : AObj), os[k]? = some o → ath H (getN js k) = some (o.ren r)
  | [], [], H, _ => ⟨rfl, fun k o h => by simp at h⟩
  | j :: js, o :: os, H, h => by
    obtain ⟨h1, h2⟩ := matchH_at h.2
    refine ⟨by simp [h1], fun k q hq => ?_⟩
    cases k with
    | zero => simp at hq; subst hq; exact h.1
    | succ k => exact h2 k q (by simpa using hq)
  | [], o :: os, H, h => h.elim
  | j :: js, [], H, h => h.elim

def idTo : Nat → Nat → List Nat → Bool
  | _, 0, _ => true
  | i, k + 1, j :: r => Nat.beq i j && idTo (i + 1) k r
  | _, _ + 1, [] => false
theorem idTo_at : ∀ {i k : Nat} {r : List Nat}, idTo i k r = true → k ≤ r.length ∧ ∀ j, j < k → getN r j = i + j
  | i, 0, r, _ => ⟨Nat.zero_le _, fun j h => by omega⟩
  | i, k + 1, j :: r, h => by
    unfold idTo at h
    rw [Bool.and_eq_true] at h
    obtain ⟨h1, h2⟩ := idTo_at h.2
    refine ⟨by simp; omega, fun q hq => ?_⟩
    cases q with
    | zero => exact (Nat.eq_of_beq_eq_true h.1).symm
    | succ q => rw [getN, h2 q (by omega)]; omega
  | i, k + 1, [], h => by cases h

def nodupN : List Nat → Bool
  | [] => true
  | a :: r => !(memN a r) && nodupN r
theorem nodupN_inj : ∀ {r : List Nat}, nodupN r = true → ∀ {k k' : Nat}, k < r.length → k' < r.length → getN r k = getN r k' → k = k'
  | [], _, k, k', h, _, _ => by simp at h
  | a :: r, hn, k, k', h, h', e => by
    unfold nodupN at hn
    rw [Bool.and_eq_true, Bool.not_eq_true'] at hn
    have mem : ∀ j, j < r.length → getN r j ∈ r := fun j hj => by
      rw [getN_eq, List.getD_eq_getElem?_getD, List.getElem?_eq_getElem hj]; exact List.getElem_mem _
    cases k with
    | zero =>
      cases k' with
      | zero => rfl
      | succ k' =>
        exfalso
        simp only [getN] at e
        rw [e, memN_ok (mem k' (by simpa using h'))] at hn
        cases hn.1
    | succ k =>
      cases k' with
      | zero =>
        exfalso
        simp only [getN] at e
        rw [← e, memN_ok (mem k (by simpa using h))] at hn
        cases hn.1
      | succ k' => rw [nodupN_inj hn.2 (by simpa using h) (by simpa using h') e]

/-- These slots and objects of the others are told anew. -/
structure Ren (bm : Nat) (r : List Nat) (env : Env) (H : AH) (env' : Env) (H' : AH) : Prop where
  e : leR r env env'
  h : matchH r r H H'
  i : idTo 0 bm r = true
  n : nodupN r = true
  ue : undE r.length env = true
  uh : undH r.length H = true

theorem AObj.ren_live {r : List Nat} {o : AObj} : (o.ren r).live = o.live := by cases o <;> rfl

theorem Ren.state {bm : Nat} {r : List Nat} {env env' : Env} {H H' : AH} (h : Ren bm r env H env' H') {IM : Imm} {bs : List Blk} {w : World} {tmps : Array Value} (hw : WR IM bs w H') (he : EnvR IM bs tmps env') :
    ∃ bs2, WR IM bs2 w H ∧ EnvR IM bs2 tmps env ∧ ExtM bm IM bs w H' IM bs2 w H := by
  obtain ⟨m1, m2⟩ := matchH_at h.h
  obtain ⟨i1, i2⟩ := idTo_at h.i
  have hB : ∀ (k : Nat) (o : AObj) (B : Blk), H[k]? = some o → (blks r bs)[k]? = some B → H'[getN r k]? = some (o.ren r) ∧ bs[getN r k]? = some B := by
    intro k o B ho hb
    obtain ⟨b1, b2⟩ := blks_of hb
    have := m2 k o ho
    rw [ath_eq] at this
    have hl := lt_of_getL this
    refine ⟨this, ?_⟩
    rw [← hw.len] at hl
    rw [b2, List.getD_eq_getElem?_getD, List.getElem?_eq_getElem hl]
    rfl
  have hcl : ∀ (o : AObj) (B : Blk), Claim o B → Claim (o.ren r) B := fun o B hc => ⟨by rw [AObj.ren_live]; exact hc.1, hc.2⟩
  refine ⟨blks r bs, ⟨by simp [blks, m1], hw.imm, ?_, ?_, ?_⟩, ?_, ⟨rfl, rfl, rfl, Nat.le_refl _, Imm.le_refl _, ?_, fun _ _ _ => rfl, fun _ _ h => .inl h, ?_⟩⟩
  · intro k o B ho hb
    obtain ⟨g1, g2⟩ := hB k o B ho hb
    exact ObjR.ren (undH_mem h.uh o (List.mem_of_getElem? ho)) (hw.obj _ _ B g1 g2)
  · intro k k' o o' B B' ho ho' hc hc' hb hb' e
    obtain ⟨g1, g2⟩ := hB k o B ho hb
    obtain ⟨f1, f2⟩ := hB k' o' B' ho' hb'
    exact nodupN_inj h.n (blks_of hb).1 (blks_of hb').1 (hw.inj _ _ _ _ B B' g1 f1 (hcl _ _ hc) (hcl _ _ hc') g2 f2 e)
  · intro k o B ho hc hb
    obtain ⟨g1, g2⟩ := hB k o B ho hb
    exact hw.dis _ _ B g1 (hcl _ _ hc) g2
  · intro t a ht
    exact VR.ren a _ (undE_look h.ue t a ht) (he t _ (leR_look h.e t a ht))
  · have : bs.take bm = (blks r bs).take bm := by
      apply List.ext_getElem?
      intro k
      rw [List.getElem?_take, List.getElem?_take]
      split
      · rename_i hk
        have hkr : k < H.length := by omega
        have hb : ∃ B, (blks r bs)[k]? = some B := ⟨(blks r bs)[k]'(by simp [blks]; omega), List.getElem?_eq_getElem _⟩
        obtain ⟨B, hb⟩ := hb
        obtain ⟨g1, g2⟩ := hB k H[k] B (by simp [hkr]) hb
        rw [i2 k hk, Nat.zero_add] at g2
        rw [g2, hb]
      · rfl
    rw [this]
    exact List.take_prefix _ _
  · intro k o B ho hc hb
    obtain ⟨g1, g2⟩ := hB k o B ho hb
    exact .inr ⟨_, _, B, g1, hcl _ _ hc, g2, rfl⟩

theorem AWP.ren {P : Program} {n bm : Nat} {c : Code} {Q : APost} {env env' : Env} {H H' : AH} (r : List Nat) (hr : Ren bm r env H env' H') (h : AWP P n bm c Q env H) : AWP P n bm c Q env' H' := by
  intro IM bs w a h1 h2 h3 h4
  obtain ⟨bs2, g1, g2, g3⟩ := hr.state h3 h4
  refine wp_mono (h IM bs2 w a h1 h2 g1 g2) ?_
  rintro e a' w' ⟨env2, H2, IM2, bs3, q, q1, q2, q3, q4, q5⟩
  exact ⟨env2, H2, IM2, bs3, q, q1, q2, q3, q4, g3.trans q5⟩

/-- The end of a round, objects told by other numbers. -/
def BackR {α : Type} (bm : Nat) (I : α → Prop) (E : α → Env) (HH : α → AH) (μ : α → Nat) (s : α) (env' : Env) (H' : AH) : Prop :=
  ∃ s' r, I s' ∧ μ s' < μ s ∧ Ren bm r (E s') (HH s') env' H'

theorem AWP.loopR {P : Program} {n bm : Nat} {c : Code} {Q : APost} {env : Env} {H : AH} {α : Type} (I : α → Prop) (E : α → Env) (HH : α → AH) (μ : α → Nat) (s0 : α) (hI : I s0) (r0 : List Nat) (hr : Ren bm r0 (E s0) (HH s0) env H)
    (round : ∀ s, I s → AWP P n bm c (thenA (BackR bm I E HH μ s) Q) (E s) (HH s)) : AWP P n bm (.loop c) Q env H := by
  refine AWP.ren r0 hr ?_
  intro IM bs w a h1 h2 h3 h4
  refine wp_loop_ghost (fun k a' w' => ∃ s IM' bs', I s ∧ μ s = k ∧ a'.tmps.size = n ∧ a'.defers = [] ∧ WR IM' bs' w' (HH s) ∧ EnvR IM' bs' a'.tmps (E s) ∧ ExtM bm IM bs w (HH s0) IM' bs' w' (HH s)) (μ s0)
    ⟨s0, IM, bs, hI, rfl, h1, h2, h3, h4, ExtM.refl _ _ _ _⟩ ?_
  rintro k a' w' ⟨s, IM', bs', hs, rfl, g2, g3, g4, g5, g6⟩
  refine wp_mono (round s hs IM' bs' w' a' g2 g3 g4 g5) ?_
  rintro e a2 w2 ⟨env2, H2, IM2, bs2, q, q1, q2, q3, q4, q5⟩
  cases e with
  | normal =>
    obtain ⟨s', r, i1, i2, i3⟩ := q
    obtain ⟨bs3, f1, f2, f3⟩ := i3.state q3 q4
    exact ⟨μ s', i2, s', IM2, bs3, i1, rfl, q1, q2, f1, f2, (g6.trans q5).trans f3⟩
  | exit id => exact ⟨env2, H2, IM2, bs2, q, q1, q2, q3, q4, g6.trans q5⟩
  | goto l => exact ⟨env2, H2, IM2, bs2, q, q1, q2, q3, q4, g6.trans q5⟩
  | ret => exact ⟨env2, H2, IM2, bs2, q, q1, q2, q3, q4, g6.trans q5⟩
  | panic ch => exact ⟨env2, H2, IM2, bs2, q, q1, q2, q3, q4, g6.trans q5⟩
  | outgrown => exact ⟨env2, H2, IM2, bs2, q, q1, q2, q3, q4, g6.trans q5⟩

end Go.Abs
end

section
set_option autoImplicit false
set_option linter.unusedVariables false
set_option linter.unusedSimpArgs false
namespace Go.Abs
open Go

/-! ### Steps by hand, where the heap is not told out -/

theorem runOps_cons {C : Ctx} {n : Nat} {all : List Oper} {Q : Env → AH → Prop} {o : Oper} {r : List Oper} {env : Env} {H : AH} (hg : o.guard = none)
    (h : stepA C env H o.op fun v H' => putA n o.dst v env fun env' => runOps C n all Q r env' H') : runOps C n all Q (o :: r) env H := by
  unfold runOps
  rw [hg]
  exact h
theorem putA_some {n t : Nat} {v : AV} {env : Env} {K : Env → Prop} (h : K ((t, v) :: env)) (ht : Nat.blt t n = true) : putA n (some t) v env K := by
  unfold putA
  dsimp only
  rw [ht]
  exact h
theorem putA_none {n : Nat} {v : AV} {env : Env} {K : Env → Prop} (h : K env) : putA n none v env K := h

theorem stepA_load {C : Ctx} {env : Env} {H : AH} {t : TypeId} {x : Operand} {K : AV → AH → Prop} {k j f : Nat} {u : U} {xs : List (El u)} {i : TI} {v : AV} (hx : opd env x = some (.ptr k j f)) (hk : ath H k = some (.row u xs)) (hj : j < xs.length)
    (ht : C.ty t = some i) (hl : loadC i (enc u (xs.getD j (dflt u))).cells f = some v) (h : K v H) : stepA C env H (.load t x) K := by
  show opA C env H (.load t x) K
  unfold opA
  dsimp only
  rw [hx]
  show loadA C t (.ptr k j f) H fun v => K v H
  unfold loadA
  rw [ht]
  dsimp only
  rw [hk]
  refine ⟨hj, ?_⟩
  rw [hl]
  exact h
theorem stepA_loadA {C : Ctx} {env : Env} {H : AH} {t : TypeId} {x : Operand} {K : AV → AH → Prop} {k j : Nat} {xs : List AV} {i : TI} (hx : opd env x = some (.ptr k j 0)) (hk : ath H k = some (.rowA xs)) (hj : j < xs.length)
    (ht : C.ty t = some i) (hl : i.d.agg = false) {v : AV} (hv : xs.getD j .junk = v) (h : K v H) : stepA C env H (.load t x) K := by
  subst hv
  show opA C env H (.load t x) K
  unfold opA
  dsimp only
  rw [hx]
  show loadA C t (.ptr k j 0) H fun v => K v H
  unfold loadA
  rw [ht]
  dsimp only
  rw [hk]
  refine ⟨hj, ?_⟩
  rw [hl]
  exact h
theorem stepA_idx {C : Ctx} {env : Env} {H : AH} {t : TypeId} {x y : Operand} {K : AV → AH → Prop} {k off len : Nat} {n : Int} (hx : opd env x = some (.ref k off len)) (hy : opd env y = some (.int .i64 n)) (hs : refSz C t k H) (hn : 0 ≤ n ∧ n < len)
    (h : K (.ptr k (n.toNat + off) 0) H) : stepA C env H (.indexAddr t x y) K := by
  show opA C env H (.indexAddr t x y) K
  unfold opA
  dsimp only
  rw [hx]
  show get1 (opd env y) (fun b => idxAddr C t (.ref k off len) b H fun v => K v H)
  rw [hy]
  exact ⟨hs, hn, h⟩
theorem stepA_store {C : Ctx} {env : Env} {H : AH} {t : TypeId} {x y : Operand} {K : AV → AH → Prop} {k j : Nat} {n : Int} {xs : List Int} {i : TI} (hx : opd env x = some (.ptr k j 0)) (hy : opd env y = some (.int .i64 n)) (hk : ath H k = some (.row .int xs)) (hj : j < xs.length)
    (ht : C.ty t = some i) (hz : i.sz = 1) (h : NormH (put k (.row .int (xs.set j n)) H) (K .junk)) : stepA C env H (.store t x y) K := by
  show opA C env H (.store t x y) K
  unfold opA
  dsimp only
  rw [hx]
  show get1 (opd env y) (fun v => storeA C t (.ptr k j 0) v H fun H' => NormH H' (K .junk))
  rw [hy]
  show storeA C t (.ptr k j 0) (.int .i64 n) H fun H' => NormH H' (K .junk)
  unfold storeA
  have e1 : (AV.int .i64 n).cells.all AV.one = true := rfl
  have e2 : Nat.beq (AV.int .i64 n).cells.length i.sz = true := by rw [hz]; rfl
  rw [ht, e1]
  dsimp only
  rw [e2]
  dsimp only
  rw [hk]
  exact ⟨hj, h⟩

/-! ### Tables of numbers -/

/-- The rows of a table, the first of them at one. -/
def rowsT (W : Nat → List Int) (m : Nat) : AH := (List.range m).map fun i => .row .int (W i)
theorem rowsT_len {W : Nat → List Int} {m : Nat} : (rowsT W m).length = m := by simp [rowsT]
theorem ath_rowsT {W : Nat → List Int} {m i : Nat} (h : i < m) : ath (rowsT W m) i = some (.row .int (W i)) := by
  rw [ath_eq]; simp [rowsT, h]
theorem rowsT_succ {W : Nat → List Int} {m : Nat} : rowsT W (m + 1) = rowsT W m ++ [.row .int (W m)] := by
  simp [rowsT, List.range_succ]
theorem put_rowsT {W : Nat → List Int} {m i : Nat} {x : List Int} (h : i < m) : put i (.row .int x) (rowsT W m) = rowsT (fun j => if j = i then x else W j) m := by
  rw [put_eq]
  apply List.ext_getElem?
  intro j
  rw [List.getElem?_set]
  simp only [rowsT, List.length_map, List.length_range, List.getElem?_map]
  rcases Nat.lt_or_ge j m with hj | hj
  · rcases Nat.decEq j i with hne | he
    · rw [if_neg (fun e => hne e.symm)]
      simp [hj, hne]
    · subst he
      rw [if_pos rfl]
      simp [hj]
  · have : j ≠ i := by omega
    rw [if_neg (fun e => this e.symm)]
    have h0 : (List.range m)[j]? = none := by simp [hj]
    rw [h0]
    rfl
theorem rowsT_congr {W W' : Nat → List Int} {m : Nat} (h : ∀ i, i < m → W i = W' i) : rowsT W m = rowsT W' m := by
  unfold rowsT
  apply List.map_congr_left
  intro i hi
  rw [h i (by simpa using hi)]
/-- The table's slices: so many rows are made. -/
def refsT (M m k : Nat) : List AV := (List.range m).map (fun i => .ref (i + 1) 0 M) ++ List.replicate (k - m) .nilsl
theorem refsT_len {M m k : Nat} (h : m ≤ k) : (refsT M m k).length = k := by simp [refsT]; omega
theorem refsT_at {M m k i : Nat} (h : i < m) : (refsT M m k).getD i .junk = .ref (i + 1) 0 M := by
  rw [List.getD_eq_getElem?_getD, refsT, List.getElem?_append_left (by simpa using h)]
  simp [h]
theorem refsT_set {M m k : Nat} (h : m < k) : (refsT M m k).set m (.ref (m + 1) 0 M) = refsT M (m + 1) k := by
  apply List.ext_getElem?
  intro j
  rw [List.getElem?_set, refsT_len (Nat.le_of_lt h)]
  unfold refsT
  rcases Nat.lt_trichotomy j m with hj | hj | hj
  · rw [if_neg (by omega), List.getElem?_append_left (by simpa using hj), List.getElem?_append_left (by simp; omega)]
    simp [hj, Nat.lt_succ_of_lt hj]
  · subst hj
    rw [if_pos rfl, if_pos h, List.getElem?_append_left (by simp)]
    simp
  · rw [if_neg (by omega), List.getElem?_append_right (by simp; omega), List.getElem?_append_right (by simp; omega)]
    simp only [List.length_map, List.length_range, List.getElem?_replicate]
    congr 1
    apply propext
    constructor <;> intro <;> omega
theorem refsT_und {M m k : Nat} : undL (m + 1) (refsT M m k) = true := by
  have : ∀ l : List AV, (∀ a ∈ l, a.und (m + 1) = true) → undL (m + 1) l = true := by
    intro l
    induction l with
    | nil => intro _; rfl
    | cons a r ih => intro h; rw [undL, h a List.mem_cons_self, ih fun b hb => h b (List.mem_cons_of_mem _ hb)]; rfl
  apply this
  intro a ha
  unfold refsT at ha
  rw [List.mem_append] at ha
  rcases ha with ha | ha
  · obtain ⟨i, hi, rfl⟩ := List.mem_map.1 ha
    simp only [AV.und, Nat.blt_eq]
    have := List.mem_range.1 hi
    omega
  · rw [List.eq_of_mem_replicate ha]; rfl
theorem rowsT_und {W : Nat → List Int} {m q : Nat} : undH q (rowsT W m) = true := by
  have : ∀ l : AH, (∀ o ∈ l, o.und q = true) → undH q l = true := by
    intro l
    induction l with
    | nil => intro _; rfl
    | cons a r ih => intro h; rw [undH, h a List.mem_cons_self, ih fun b hb => h b (List.mem_cons_of_mem _ hb)]; rfl
  apply this
  intro o ho
  obtain ⟨i, hi, rfl⟩ := List.mem_map.1 ho
  rfl
/-- A row, by its numbers. -/
def tabl (M : Nat) (f : Nat → Int) : List Int := (List.range M).map f
theorem tabl_len {M : Nat} {f : Nat → Int} : (tabl M f).length = M := by simp [tabl]
theorem tabl_at {M s : Nat} {f : Nat → Int} (h : s < M) : (tabl M f).getD s 0 = f s := by
  rw [List.getD_eq_getElem?_getD]; simp [tabl, h]
theorem tabl_set {M s : Nat} {f : Nat → Int} {v : Int} : (tabl M f).set s v = tabl M fun j => if j = s then v else f j := by
  apply List.ext_getElem?
  intro j
  rw [List.getElem?_set]
  simp only [tabl, List.length_map, List.length_range, List.getElem?_map]
  rcases Nat.lt_or_ge j M with hj | hj
  · rcases Nat.decEq j s with hne | he
    · rw [if_neg (fun e => hne e.symm)]
      simp [hj, hne]
    · subst he
      rw [if_pos rfl]
      simp [hj]
  · have h0 : (List.range M)[j]? = none := by simp [hj]
    rw [h0]
    split
    · rename_i e; subst e; rw [if_neg (by omega)]; rfl
    · rfl
theorem tabl_congr {M : Nat} {f g : Nat → Int} (h : ∀ s, s < M → f s = g s) : tabl M f = tabl M g := by
  unfold tabl
  apply List.map_congr_left
  intro i hi
  exact h i (by simpa using hi)
theorem tabl_zero {M : Nat} : List.replicate M (0 : Int) = tabl M fun _ => 0 := by
  apply List.ext_getElem?
  intro j
  simp [tabl, List.getElem?_replicate]
  split <;> simp [*]

end Go.Abs
namespace Go.Abs
theorem ath_last {H : AH} {o : AObj} : ath (H ++ [o]) H.length = some o := by rw [ath_eq]; simp
theorem put_last {H : AH} {o o' : AObj} : put H.length o' (H ++ [o]) = H ++ [o'] := by rw [put_eq]; simp
theorem ath_app {H F : AH} {k : Nat} (h : k < H.length) : ath (H ++ F) k = ath H k := by rw [ath_eq, ath_eq, List.getElem?_append_left h]
theorem put_app {H F : AH} {k : Nat} {o : AObj} (h : k < H.length) : put k o (H ++ F) = put k o H ++ F := by rw [put_eq, put_eq, List.set_append_left _ _ h]
end Go.Abs
namespace Go.Abs
open Go
theorem undH_app {q : Nat} : ∀ {H F : AH}, undH q (H ++ F) = (undH q H && undH q F)
  | [], F => by simp [undH]
  | o :: r, F => by rw [List.cons_append, undH, undH, undH_app, Bool.and_assoc]
theorem undL_up {q q' : Nat} (h : q ≤ q') {l : List AV} (hl : ∀ a ∈ l, a.und q = true → a.und q' = true) (hu : undL q l = true) : undL q' l = true := by
  induction l with
  | nil => rfl
  | cons a r ih =>
    rw [undL, Bool.and_eq_true] at hu ⊢
    exact ⟨hl a List.mem_cons_self hu.1, ih (fun b hb => hl b (List.mem_cons_of_mem _ hb)) hu.2⟩
theorem refsT_und' {M m k q : Nat} (h : m < q) : undL q (refsT M m k) = true := by
  refine undL_up (q := m + 1) (by omega) (fun a ha hu => ?_) refsT_und
  unfold refsT at ha
  rw [List.mem_append] at ha
  rcases ha with ha | ha
  · obtain ⟨i, hi, rfl⟩ := List.mem_map.1 ha
    simp only [AV.und, Nat.blt_eq] at hu ⊢
    omega
  · rw [List.eq_of_mem_replicate ha]; rfl
/-- The table, its slices, and a tile's box. -/
def tabH (M k : Nat) (W : Nat → List Int) (lo hi : Int) : AH := (.rowA (refsT M (k + 1) (k + 1)) :: rowsT W (k + 1)) ++ [.box [.int .i64 lo, .int .i64 hi]]
theorem tabH_len {M k : Nat} {W : Nat → List Int} {lo hi : Int} : (tabH M k W lo hi).length = k + 3 := by
  unfold tabH; rw [List.length_append, List.length_cons, rowsT_len]; rfl
theorem tabH_und {M k q : Nat} {W : Nat → List Int} {lo hi : Int} (h : k + 1 < q) : undH q (tabH M k W lo hi) = true := by
  unfold tabH; rw [undH_app, undH, rowsT_und]
  simp only [AObj.und, refsT_und' h, undH, undL, AV.und, Bool.and_self]
theorem takeH_len {n : Nat} {H : AH} (h : H.length = n) : takeH n H = H := by rw [takeH_eq, ← h, List.take_length]
end Go.Abs
end

section
set_option autoImplicit false
set_option linter.unusedVariables false
namespace Go.Abs
open Go

theorem Br.and {a b : Bool} {p q : Prop} (h : Br a (Br b p q) q) : Br (a && b) p q := by
  cases a with
  | true => exact h.t rfl
  | false => exact Br.ff (h.f rfl)
theorem Br.or {a b : Bool} {p q : Prop} (h : Br a p (Br b p q)) : Br (a || b) p q := by
  cases a with
  | true => exact Br.tt (h.t rfl)
  | false => exact h.f rfl
theorem Br.eqSelf {a : Bool} {p q : Prop} (h : p) : Br (a == a) p q := by
  cases a <;> exact Br.tt h
theorem Br.eqTF {p q : Prop} (h : q) : Br (true == false) p q := Br.ff h
theorem Br.eqFT {p q : Prop} (h : q) : Br (false == true) p q := Br.ff h
theorem Br.eqT {a : Bool} {p q : Prop} (h : Br a p q) : Br (a == true) p q := by cases a <;> exact h
theorem Br.eqF {a : Bool} {p q : Prop} (h : Br a q p) : Br (a == false) p q := by
  cases a with
  | true => exact Br.ff (h.t rfl)
  | false => exact Br.tt (h.f rfl)
theorem Br.Teq {a : Bool} {p q : Prop} (h : Br a p q) : Br (true == a) p q := by cases a <;> exact h
theorem Br.Feq {a : Bool} {p q : Prop} (h : Br a q p) : Br (false == a) p q := by
  cases a with
  | true => exact Br.ff (h.t rfl)
  | false => exact Br.tt (h.f rfl)
/-- A truth value that is known. -/
theorem Br.isT {a : Bool} {p q : Prop} (e : a = true) (h : p) : Br a p q := by subst e; exact Br.tt h
theorem Br.isF {a : Bool} {p q : Prop} (e : a = false) (h : q) : Br a p q := by subst e; exact Br.ff h
theorem Br.eqX {a b : Bool} {p q : Prop} (t : a = b → p) (f : a ≠ b → q) : Br (a == b) p q :=
  ⟨fun h => t (by simpa using h), fun h => f (by simpa using h)⟩
theorem EvR.imp {C : Ctx} {g : FuncId} {as : List AV} {H : AH} {R R' : AV → AH → Prop} (h : EvR C g as H R) (hR : ∀ v H', R v H' → R' v H') : EvR C g as H R' :=
  ⟨h.1, fun IM bs w vs h1 h2 => (h.2 IM bs w vs h1 h2).mono fun e w' ⟨r, IM', bs', H', av, he, a, b, c, d⟩ => ⟨r, IM', bs', H', av, he, a, b, c, hR _ _ d⟩⟩
theorem Pr.imp {C : Ctx} {g : FuncId} {as : List AV} {R R' : AV → Prop} (h : Pr C g as R) (hR : ∀ v, R v → R' v) : Pr C g as R' := EvR.imp h fun v H' ⟨a, b, c⟩ => ⟨hR v a, b, c⟩
end Go.Abs
end

section
set_option autoImplicit false
set_option linter.unusedVariables false
namespace Go.Abs
open Go

/-- Operations that ask nothing and make no branch. -/
def plainOp : Op → Bool
  | .move _ => true
  | .assign _ => true
  | .pick _ _ _ => true
  | .extract _ _ => true
  | .field _ _ _ => true
  | .build _ _ => true
  | _ => false

structure RunM (C : Ctx) (n : Nat) (all : List Oper) (Q : Env → AH → Prop) (r : List Oper) (env : Env) (H : AH) : Prop where
  out : runOps C n all Q r env H
theorem RunM.eq (C : Ctx) (n : Nat) (all : List Oper) (Q : Env → AH → Prop) (r : List Oper) (env : Env) (H : AH) : RunM C n all Q r env H = runOps C n all Q r env H :=
  propext ⟨fun h => h.out, fun h => ⟨h⟩⟩

def runOps1 (C : Ctx) (n : Nat) (all : List Oper) (Q : Env → AH → Prop) (R : List Oper → Env → AH → Prop) : List Oper → Env → AH → Prop
  | [], env, H => Q env H
  | o :: r, env, H => match o.guard with
    | none => match plainOp o.op with
      | true => opA C env H o.op fun v H' => putA n o.dst v env fun env' => runOps1 C n all Q R r env' H'
      | false => stepA C env H o.op fun v H' => putA n o.dst v env fun env' => R r env' H'
    | some (j, want) => match lat all j with
      | some oj => match oj.dst with
        | some t => match look t env with
          | some (.bool v) => match want with
            | true => Br v (stepA C ((t, .bool true) :: env) H o.op fun v H' => putA n o.dst v ((t, .bool true) :: env) fun env' => R r env' H')
                (putA n o.dst .junk ((t, .bool false) :: env) fun env' => R r env' H)
            | false => Br v (putA n o.dst .junk ((t, .bool true) :: env) fun env' => R r env' H)
                (stepA C ((t, .bool false) :: env) H o.op fun v H' => putA n o.dst v ((t, .bool false) :: env) fun env' => R r env' H')
          | _ => False
        | none => False
      | none => False

theorem stepA_plain {C : Ctx} {env : Env} {H : AH} {o : Op} {K : AV → AH → Prop} (h : plainOp o = true) : stepA C env H o K = opA C env H o K := by
  cases o <;> first | rfl | cases h

theorem runOps1_eq (C : Ctx) (n : Nat) (all : List Oper) (Q : Env → AH → Prop) : ∀ (r : List Oper) (env : Env) (H : AH), runOps1 C n all Q (RunM C n all Q) r env H = runOps C n all Q r env H
  | [], env, H => rfl
  | o :: r, env, H => by
    have ih := runOps1_eq C n all Q r
    have e : RunM C n all Q r = runOps C n all Q r := funext fun env => funext fun H => RunM.eq C n all Q r env H
    unfold runOps1 runOps
    rw [e]
    cases hg : o.guard with
    | none =>
      dsimp only
      cases hp : plainOp o.op with
      | true =>
        dsimp only
        rw [stepA_plain hp]
        refine congrArg (opA C env H o.op) ?_
        funext v H'
        refine congrArg (putA n o.dst v env) ?_
        funext env'
        exact ih env' H'
      | false => rfl
    | some x => rfl

theorem RunM.go {C : Ctx} {n : Nat} {all : List Oper} {Q : Env → AH → Prop} {r : List Oper} {env : Env} {H : AH} (h : runOps1 C n all Q (RunM C n all Q) r env H) : RunM C n all Q r env H :=
  ⟨runOps1_eq C n all Q r env H ▸ h⟩

def aw1 (C : Ctx) (n bm : Nat) : Code → APost → Env → AH → Prop
  | .region _ ops false, Q, env, H => RunM C n ops.toList (Q .normal) ops.toList env H
  | .seq x y, Q, env, H => aw1 C n bm x (thenA (AwM C n bm y Q) Q) env H
  | .cond c x y, Q, env, H => match opd env c with
    | some (.bool b) => Br b (AwM C n bm x Q env H) (AwM C n bm y Q env H)
    | _ => False
  | .block id c, Q, env, H => aw1 C n bm c (inBlockA id Q) env H
  | c, Q, env, H => aw C n bm c Q env H

theorem aw1_sound {C : Ctx} {n bm : Nat} : ∀ (c : Code) (Q : APost) (env : Env) (H : AH), aw1 C n bm c Q env H → AWP C.P n bm c Q env H
  | .region _ ops false, Q, env, H, h => AWP.region (RunM.out h)
  | .seq x y, Q, env, H, h => AWP.seq ((aw1_sound x _ env H h).mono (thenA_mono fun env' H' h' => h'.out))
  | .cond c x y, Q, env, H, h => by
    unfold aw1 at h
    split at h
    · rename_i b hb
      intro IM bs w a h1 h2 h3 h4
      have hv := opd_ok h4 hb
      have he : ∃ v, a.eval c = .bool v ∧ v = b := by
        generalize a.eval c = q at hv
        cases hv with
        | bool b => exact ⟨_, rfl, rfl⟩
      obtain ⟨v, he, rfl⟩ := he
      cases v with
      | true => exact wp_cond_true he ((h.1 rfl).out IM bs w a h1 h2 h3 h4)
      | false => exact wp_cond_false he ((h.2 rfl).out IM bs w a h1 h2 h3 h4)
    · exact h.elim
  | .block id c, Q, env, H, h => AWP.block (aw1_sound c _ env H h)
  | .region _ _ true, _, _, _, h => aw_sound _ _ _ _ h
  | .skip, _, _, _, h => aw_sound _ _ _ _ h
  | .label _, _, _, _, h => aw_sound _ _ _ _ h
  | .exit _, _, _, _, h => aw_sound _ _ _ _ h
  | .ret, _, _, _, h => aw_sound _ _ _ _ h
  | .loop _, _, _, _, h => aw_sound _ _ _ _ h
  | .rangeFunc _ _ _ _, _, _, _, h => aw_sound _ _ _ _ h
  | .scope _, _, _, _, h => aw_sound _ _ _ _ h
  | .goto _, _, _, _, h => aw_sound _ _ _ _ h
  | .refuse _, _, _, _, h => aw_sound _ _ _ _ h

theorem AwM.go {C : Ctx} {n bm : Nat} {c : Code} {Q : APost} {env : Env} {H : AH} (h : aw1 C n bm c Q env H) : AwM C n bm c Q env H := ⟨aw1_sound c Q env H h⟩
end Go.Abs
end

section
set_option autoImplicit false
set_option linter.unusedVariables false
namespace Go.Abs
open Go

/-- The slots of a list, told by a state's own numbers. -/
def keepN (rinv : List Nat) : List Nat → Env → Option Env
  | [], _ => some []
  | t :: r, env => match look t env, keepN rinv r env with
    | some a, some l => some ((t, a.ren rinv) :: l)
    | _, _ => none

def appE : Env → Env → Env
  | [], K => K
  | x :: r, K => x :: appE r K

theorem leR_app {r : List Nat} {K env : Env} (hK : leR r K env) : ∀ {M : Env}, leR r M env → leR r (appE M K) env
  | [], _ => hK
  | (t, a) :: M, h => ⟨h.1, leR_app hK h.2⟩

theorem Ren.mkK {bm : Nat} {r : List Nat} {M K : Env} {H : AH} {env' : Env} {H' : AH} (hM : leR r M env') (hK : leR r K env') (hH : matchH r r H H') (i : idTo 0 bm r = true) (n : nodupN r = true)
    (ue : undE r.length (appE M K) = true) (uh : undH r.length H = true) : Ren bm r (appE M K) H env' H' := ⟨leR_app hK hM, hH, i, n, ue, uh⟩

/-- The end of a round, as it is to be shown. -/
structure BackB {α : Type} (bm : Nat) (I : α → Prop) (M : α → Env) (K : Env) (HH : α → AH) (μ : α → Nat) (s : α) (env' : Env) (H' : AH) : Prop where
  mk' ::
  out : ∃ s' r, I s' ∧ μ s' < μ s ∧ Ren bm r (appE (M s') K) (HH s') env' H'
structure BackK {α : Type} (bm : Nat) (I : α → Prop) (M : α → Env) (K : Env) (HH : α → AH) (μ : α → Nat) (s : α) (env' : Env) (H' : AH) : Prop where
  of : BackB bm I M K HH μ s env' H'
theorem BackB.mk {α : Type} {bm : Nat} {I : α → Prop} {M : α → Env} {K : Env} {HH : α → AH} {μ : α → Nat} {s : α} {env' : Env} {H' : AH} (s' : α) (r : List Nat) (hI : I s') (hμ : μ s' < μ s) (hM : leR r (M s') env') (hK : leR r K env')
    (hH : matchH r r (HH s') H') (i : idTo 0 bm r = true) (n : nodupN r = true) (ue : undE r.length (appE (M s') K) = true) (uh : undH r.length (HH s') = true) : BackB bm I M K HH μ s env' H' :=
  ⟨s', r, hI, hμ, Ren.mkK hM hK hH i n ue uh⟩

structure StopB (p : Prop) : Prop where
  out : p
theorem Stop.b {p : Prop} (h : StopB p) : Stop p := ⟨h.out⟩
structure CallB (C : Ctx) (g : FuncId) (as : List AV) (H : AH) (K : AV → AH → Prop) : Prop where
  out : CallA C g as H K
theorem CallA.b {C : Ctx} {g : FuncId} {as : List AV} {H : AH} {K : AV → AH → Prop} (h : CallB C g as H K) : CallA C g as H K := h.out

/-- A loop: only the slots that turn are told by hand. -/
theorem AWP.loopK {C : Ctx} {n bm : Nat} {c : Code} {Q : APost} {env : Env} {H : AH} {α : Type} (rinv ks : List Nat) (K : Env) (hK : keepN rinv ks env = some K) (I : α → Prop) (M : α → Env) (HH : α → AH) (μ : α → Nat) (s0 : α)
    (hI : I s0) (r0 : List Nat) (hr : Ren bm r0 (appE (M s0) K) (HH s0) env H)
    (round : ∀ s, I s → AwM C n bm c (thenA (BackK bm I M K HH μ s) Q) (appE (M s) K) (HH s)) : AWP C.P n bm (.loop c) Q env H :=
  AWP.loopR I (fun s => appE (M s) K) HH μ s0 hI r0 hr fun s hs => (round s hs).out.mono (thenA_mono fun _ _ h => h.of.out)

/-- Only these slots and objects are told on. -/
theorem AwM.cut {C : Ctx} {n bm : Nat} {c : Code} {Q : APost} {env : Env} {H : AH} (rinv ks : List Nat) (K : Env) (hK : keepN rinv ks env = some K) (r : List Nat) (H0 : AH) (hr : Ren bm r K H0 env H) (h : AwM C n bm c Q K H0) : AwM C n bm c Q env H :=
  ⟨AWP.ren r hr h.out⟩

structure DrawM (C : Ctx) (n : Nat) (all : List Oper) (ov : List (Nat × Nat)) (Q : Env → AH → Prop) (i : Nat) (r : List Oper) (env : Env) (H : AH) : Prop where
  out : drawA C n all ov Q i r env H
theorem DrawM.fn (C : Ctx) (n : Nat) (all : List Oper) (ov : List (Nat × Nat)) (Q : Env → AH → Prop) : DrawM C n all ov Q = drawA C n all ov Q :=
  funext fun i => funext fun r => funext fun env => funext fun H => propext ⟨fun h => h.out, fun h => ⟨h⟩⟩

def drawS (C : Ctx) (n : Nat) (all : List Oper) (ov : List (Nat × Nat)) (Q : Env → AH → Prop) (R : Nat → List Oper → Env → AH → Prop) : Nat → List Oper → Env → AH → Prop
  | _, [], env, H => Q env H
  | i, o :: r, env, H =>
    let go (env' : Env) : Prop := match kindAt ov i o with
      | 0 => DrawF (fun H' K => stepA C (restr env' (namesOf o)) H' o.op K) (fun v => putA n o.dst v env' fun env2 => R (i + 1) r env2 H)
      | 1 => DrawR (stepA C (restr env' (namesOf o)) H o.op) H (fun v => putA n o.dst v env' fun env2 => R (i + 1) r env2 H)
      | _ => DrawE (stepA C (restr env' (namesOf o)) H o.op) (fun v H' => putA n o.dst v env' fun env2 => R (i + 1) r env2 H')
    match o.guard with
    | none => go env
    | some (j, want) => match lat all j with
      | some oj => match oj.dst with
        | some t => match look t env with
          | some (.bool v) => match want with
            | true => Br v (go ((t, .bool true) :: env)) (putA n o.dst .junk ((t, .bool false) :: env) fun env2 => R (i + 1) r env2 H)
            | false => Br v (putA n o.dst .junk ((t, .bool true) :: env) fun env2 => R (i + 1) r env2 H) (go ((t, .bool false) :: env))
          | _ => False
        | none => False
      | none => False

theorem drawS_eq (C : Ctx) (n : Nat) (all : List Oper) (ov : List (Nat × Nat)) (Q : Env → AH → Prop) (i : Nat) (r : List Oper) (env : Env) (H : AH) : drawS C n all ov Q (drawA C n all ov Q) i r env H = drawA C n all ov Q i r env H := by
  cases r with
  | nil => rfl
  | cons o r => rfl

theorem DrawM.go {C : Ctx} {n : Nat} {all : List Oper} {ov : List (Nat × Nat)} {Q : Env → AH → Prop} {i : Nat} {r : List Oper} {env : Env} {H : AH} (h : drawS C n all ov Q (DrawM C n all ov Q) i r env H) : DrawM C n all ov Q i r env H := by
  rw [DrawM.fn] at h
  exact ⟨drawS_eq C n all ov Q i r env H ▸ h⟩

theorem AWP.drawM {C : Ctx} {n bm id : Nat} {ops : Array Oper} {Q : APost} {env : Env} {H : AH} (ov : List (Nat × Nat)) (hm : C.P.follows .mixedOrders = true) (hck : drawOk ops.toList ov = true)
    (h : DrawM C n ops.toList ov (Q .normal) 0 ops.toList env H) : AWP C.P n bm (.region id ops true) Q env H := AWP.draw ov hm hck h.out
end Go.Abs
end
