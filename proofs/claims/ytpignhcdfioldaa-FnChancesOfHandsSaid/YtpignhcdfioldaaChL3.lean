import Derived.Test.YtpignhcdfioldaaChL2

set_option autoImplicit false
set_option maxRecDepth 100000
namespace Go.Proofs.Ytpignhcdfioldaa
open Go Go.Abs

theorem spec_next : Cu C F.spec_l1Cur_next [] (fun v => ∃ n : Int, v = .int .i64 n ∧ 0 ≤ n ∧ n ≤ 255) 1 := by
  refine cu_of Try.func125 rfl rfl rfl ?_
  intro code p s h0 h1
  try with_reducible refine CallB.mk ?_
  (repeat' ((conv => whnf); first
      | with_reducible refine RunM.go ?_
      | with_reducible refine AwM.go ?_
      | with_reducible refine DrawM.go ?_
      | refine NormH.go rfl ?_
      | with_reducible refine NormH.mk ?_
      | with_reducible refine Br.tt ?_
      | with_reducible refine Br.ff ?_
      | with_reducible refine Br.not ?_
      | with_reducible refine Br.and ?_
      | with_reducible refine Br.or ?_
      | with_reducible refine Br.isT (by assumption) ?_
      | with_reducible refine Br.isF (by assumption) ?_
      | with_reducible refine Br.eqSelf ?_
      | with_reducible refine Br.eqTF ?_
      | with_reducible refine Br.eqFT ?_
      | with_reducible refine Br.eqT ?_
      | with_reducible refine Br.eqF ?_
      | with_reducible refine Br.Teq ?_
      | with_reducible refine Br.Feq ?_
      | with_reducible refine Br.beqI ?_
      | with_reducible refine Br.bneI ?_
      | with_reducible refine Br.decT (by omega) ?_
      | with_reducible refine Br.decF (by omega) ?_
      | with_reducible refine Br.dec (fun h => ?_) (fun h => ?_)
      | with_reducible refine Br.mk (fun h => ?_) (fun h => ?_)
      | with_reducible refine Side.mk (by omega) ?_
      | with_reducible refine Side.mk (by assumption) ?_
      | with_reducible refine Side.mk rfl ?_
      | refine Side.mk (by exact rfl) ?_
      | with_reducible refine Alt.l (Side.mk (by omega) ?_)
      | with_reducible refine Alt.l (Side.mk (by refine ⟨rfl, ?_⟩; simp only [List.length_cons, List.length_nil]; omega) ?_)
      | refine Alt.l (Side.mk rfl ?_)
      | with_reducible refine Alt.r (Side.mk (by omega) ?_)
      | with_reducible refine Ovf.ok (by unfold inI64; omega) ?_
      | with_reducible refine Ovf.ok (inK64_u8 _) ?_
      | with_reducible refine Ovf.ok (by simp only [inK, decide_eq_true_eq]; omega) ?_
      | with_reducible apply DrawF.mk
      | with_reducible refine ForH.mk (fun _ => ?_)
      | with_reducible apply DrawR.mk
      | with_reducible apply DrawE.mk
      | with_reducible refine Stop.mk (AWP.drawM [] mixed (by kernel_rfl) ?_)
      | with_reducible exact Abs.Fin.mk ⟨rfl, rfl⟩
      | with_reducible refine Abs.Fin.mk ?_
      | refine Ovf.ok (inKu64_u8 _) ?_
      | refine Ovf.ok (and255k _) ?_
      | with_reducible refine BackK.mk ?_
      | with_reducible refine Stop.b ?_
      | with_reducible refine CallA.b ?_))
  · have := (code.getD p.toNat (dflt .u8)).toNat_lt
    exact Done.cu _ (p + 1) _ (.closed _ rfl) rfl ⟨_, rfl, by omega, by omega⟩ rfl (by omega) (by omega)
  · exact Done.cu _ (p + 1) _ (.closed _ rfl) rfl ⟨_, rfl, and255 _⟩ rfl (by omega) (by omega)

theorem spec_pick (n : Int) (hn : n ≤ 100000) : Cu C F.spec_l1Cur_pick [.int .i64 n] (fun v => ∃ m : Int, v = .int .i64 m ∧ 0 ≤ m ∧ (m < n ∨ m = 0)) 2 := by
  refine cu_of Try.func81 rfl rfl rfl ?_
  intro code p s h0 h1
  try with_reducible refine CallB.mk ?_
  (repeat' ((conv => whnf); first
      | with_reducible refine RunM.go ?_
      | with_reducible refine AwM.go ?_
      | with_reducible refine DrawM.go ?_
      | refine NormH.go rfl ?_
      | with_reducible refine NormH.mk ?_
      | with_reducible refine Br.tt ?_
      | with_reducible refine Br.ff ?_
      | with_reducible refine Br.not ?_
      | with_reducible refine Br.and ?_
      | with_reducible refine Br.or ?_
      | with_reducible refine Br.isT (by assumption) ?_
      | with_reducible refine Br.isF (by assumption) ?_
      | with_reducible refine Br.eqSelf ?_
      | with_reducible refine Br.eqTF ?_
      | with_reducible refine Br.eqFT ?_
      | with_reducible refine Br.eqT ?_
      | with_reducible refine Br.eqF ?_
      | with_reducible refine Br.Teq ?_
      | with_reducible refine Br.Feq ?_
      | with_reducible refine Br.beqI ?_
      | with_reducible refine Br.bneI ?_
      | with_reducible refine Br.decT (by omega) ?_
      | with_reducible refine Br.decF (by omega) ?_
      | with_reducible refine Br.dec (fun h => ?_) (fun h => ?_)
      | with_reducible refine Br.mk (fun h => ?_) (fun h => ?_)
      | with_reducible refine Side.mk (by omega) ?_
      | with_reducible refine Side.mk (by assumption) ?_
      | with_reducible refine Side.mk rfl ?_
      | refine Side.mk (by exact rfl) ?_
      | with_reducible refine Alt.l (Side.mk (by omega) ?_)
      | with_reducible refine Alt.l (Side.mk (by refine ⟨rfl, ?_⟩; simp only [List.length_cons, List.length_nil]; omega) ?_)
      | refine Alt.l (Side.mk rfl ?_)
      | with_reducible refine Alt.r (Side.mk (by omega) ?_)
      | with_reducible refine Ovf.ok (by unfold inI64; omega) ?_
      | with_reducible refine Ovf.ok (inK64_u8 _) ?_
      | with_reducible refine Ovf.ok (by simp only [inK, decide_eq_true_eq]; omega) ?_
      | with_reducible apply DrawF.mk
      | with_reducible refine ForH.mk (fun _ => ?_)
      | with_reducible apply DrawR.mk
      | with_reducible apply DrawE.mk
      | with_reducible refine Stop.mk (AWP.drawM [] mixed (by kernel_rfl) ?_)
      | with_reducible exact Abs.Fin.mk ⟨rfl, rfl⟩
      | with_reducible refine Abs.Fin.mk ?_
      | refine CallA.cu spec_next (by omega) (by omega) rfl ?_; rintro _ p1 s1 ⟨x, rfl, x1, x2⟩ q1 q2
      | with_reducible refine BackK.mk ?_
      | with_reducible refine Stop.b ?_
      | with_reducible refine CallA.b ?_))
  · exact Done.cu _ p _ (.closed _ rfl) rfl ⟨0, rfl, by omega, by omega⟩ rfl (by omega) (by omega)
  · exact Done.cu _ p1 s1 (.closed _ rfl) rfl ⟨_, rfl, Int.emod_nonneg _ (by omega), .inl (Int.emod_lt_of_pos _ (by omega))⟩ rfl (by omega) (by omega)
  · exact Done.cu _ p1 s1 (.closed _ rfl) rfl ⟨_, rfl, Int.emod_nonneg _ (by omega), .inl (Int.emod_lt_of_pos _ (by omega))⟩ rfl (by omega) (by omega)

theorem spec_one (n : Int) (hn : n ≤ 100000) : Cu C F.spec_l1Cur_one [.int .i64 n] (fun v => ∃ b : Bool, v = .bool b) 2 := by
  refine cu_of Try.func83 rfl rfl rfl ?_
  intro code p s h0 h1
  try with_reducible refine CallB.mk ?_
  (repeat' ((conv => whnf); first
      | with_reducible refine RunM.go ?_
      | with_reducible refine AwM.go ?_
      | with_reducible refine DrawM.go ?_
      | refine NormH.go rfl ?_
      | with_reducible refine NormH.mk ?_
      | with_reducible refine Br.tt ?_
      | with_reducible refine Br.ff ?_
      | with_reducible refine Br.not ?_
      | with_reducible refine Br.and ?_
      | with_reducible refine Br.or ?_
      | with_reducible refine Br.isT (by assumption) ?_
      | with_reducible refine Br.isF (by assumption) ?_
      | with_reducible refine Br.eqSelf ?_
      | with_reducible refine Br.eqTF ?_
      | with_reducible refine Br.eqFT ?_
      | with_reducible refine Br.eqT ?_
      | with_reducible refine Br.eqF ?_
      | with_reducible refine Br.Teq ?_
      | with_reducible refine Br.Feq ?_
      | with_reducible refine Br.beqI ?_
      | with_reducible refine Br.bneI ?_
      | with_reducible refine Br.decT (by omega) ?_
      | with_reducible refine Br.decF (by omega) ?_
      | with_reducible refine Br.dec (fun h => ?_) (fun h => ?_)
      | with_reducible refine Br.mk (fun h => ?_) (fun h => ?_)
      | with_reducible refine Side.mk (by omega) ?_
      | with_reducible refine Side.mk (by assumption) ?_
      | with_reducible refine Side.mk rfl ?_
      | refine Side.mk (by exact rfl) ?_
      | with_reducible refine Alt.l (Side.mk (by omega) ?_)
      | with_reducible refine Alt.l (Side.mk (by refine ⟨rfl, ?_⟩; simp only [List.length_cons, List.length_nil]; omega) ?_)
      | refine Alt.l (Side.mk rfl ?_)
      | with_reducible refine Alt.r (Side.mk (by omega) ?_)
      | with_reducible refine Ovf.ok (by unfold inI64; omega) ?_
      | with_reducible refine Ovf.ok (inK64_u8 _) ?_
      | with_reducible refine Ovf.ok (by simp only [inK, decide_eq_true_eq]; omega) ?_
      | with_reducible apply DrawF.mk
      | with_reducible refine ForH.mk (fun _ => ?_)
      | with_reducible apply DrawR.mk
      | with_reducible apply DrawE.mk
      | with_reducible refine Stop.mk (AWP.drawM [] mixed (by kernel_rfl) ?_)
      | with_reducible exact Abs.Fin.mk ⟨rfl, rfl⟩
      | with_reducible refine Abs.Fin.mk ?_
      | refine CallA.cu (spec_pick n hn) (by omega) (by omega) rfl ?_; rintro _ p1 s1 ⟨x, rfl, x1, x2⟩ q1 q2
      | with_reducible refine BackK.mk ?_
      | with_reducible refine Stop.b ?_
      | with_reducible refine CallA.b ?_))
  exact Done.cu _ p1 s1 (.closed _ rfl) rfl ⟨_, rfl⟩ rfl (by omega) (by omega)

theorem spec_among (xs : List Int) (h : xs ≠ []) (hn : xs.length ≤ 100000) : Cu C F.spec_l1Cur_among [.isl .int xs] (fun v => ∃ x : Int, v = .int .i64 x ∧ x ∈ xs) 2 := by
  refine cu_of Try.func120 rfl rfl rfl ?_
  intro code p s h0 h1
  have hl : 0 < xs.length := List.length_pos_iff.2 h
  try with_reducible refine CallB.mk ?_
  (repeat' ((conv => whnf); first
      | with_reducible refine RunM.go ?_
      | with_reducible refine AwM.go ?_
      | with_reducible refine DrawM.go ?_
      | refine NormH.go rfl ?_
      | with_reducible refine NormH.mk ?_
      | with_reducible refine Br.tt ?_
      | with_reducible refine Br.ff ?_
      | with_reducible refine Br.not ?_
      | with_reducible refine Br.and ?_
      | with_reducible refine Br.or ?_
      | with_reducible refine Br.isT (by assumption) ?_
      | with_reducible refine Br.isF (by assumption) ?_
      | with_reducible refine Br.eqSelf ?_
      | with_reducible refine Br.eqTF ?_
      | with_reducible refine Br.eqFT ?_
      | with_reducible refine Br.eqT ?_
      | with_reducible refine Br.eqF ?_
      | with_reducible refine Br.Teq ?_
      | with_reducible refine Br.Feq ?_
      | with_reducible refine Br.beqI ?_
      | with_reducible refine Br.bneI ?_
      | with_reducible refine Br.decT (by omega) ?_
      | with_reducible refine Br.decF (by omega) ?_
      | with_reducible refine Br.dec (fun h => ?_) (fun h => ?_)
      | with_reducible refine Br.mk (fun h => ?_) (fun h => ?_)
      | with_reducible refine Side.mk (by omega) ?_
      | with_reducible refine Side.mk (by assumption) ?_
      | with_reducible refine Side.mk rfl ?_
      | refine Side.mk (by exact rfl) ?_
      | with_reducible refine Alt.l (Side.mk (by omega) ?_)
      | with_reducible refine Alt.l (Side.mk (by refine ⟨rfl, ?_⟩; simp only [List.length_cons, List.length_nil]; omega) ?_)
      | refine Alt.l (Side.mk rfl ?_)
      | with_reducible refine Alt.r (Side.mk (by omega) ?_)
      | with_reducible refine Ovf.ok (by unfold inI64; omega) ?_
      | with_reducible refine Ovf.ok (inK64_u8 _) ?_
      | with_reducible refine Ovf.ok (by simp only [inK, decide_eq_true_eq]; omega) ?_
      | with_reducible apply DrawF.mk
      | with_reducible refine ForH.mk (fun _ => ?_)
      | with_reducible apply DrawR.mk
      | with_reducible apply DrawE.mk
      | with_reducible refine Stop.mk (AWP.drawM [] mixed (by kernel_rfl) ?_)
      | with_reducible exact Abs.Fin.mk ⟨rfl, rfl⟩
      | with_reducible refine Abs.Fin.mk ?_
      | refine CallA.cu (spec_pick xs.length (by omega)) (by omega) (by omega) rfl ?_; rintro _ p1 s1 ⟨x, rfl, x1, x2⟩ q1 q2
      | with_reducible refine BackK.mk ?_
      | with_reducible refine Stop.b ?_
      | with_reducible refine CallA.b ?_))
  refine Done.cu _ p1 s1 (.closed _ rfl) rfl ⟨_, rfl, ?_⟩ rfl (by omega) (by omega)
  rw [List.getD_eq_getElem?_getD, List.getElem?_eq_getElem (by omega)]
  exact List.getElem_mem _

theorem spec_drawn : Cu C F.spec_l1Cur_drawn [] (fun v => ∃ n k : Int, v = .tup [.int .i64 n, .int .i64 k]) 10 := by
  refine cu_of Try.func66 rfl rfl rfl ?_
  intro code p s h0 h1
  try with_reducible refine CallB.mk ?_
  (repeat' ((conv => whnf); first
      | with_reducible refine RunM.go ?_
      | with_reducible refine AwM.go ?_
      | with_reducible refine DrawM.go ?_
      | refine NormH.go rfl ?_
      | with_reducible refine NormH.mk ?_
      | with_reducible refine Br.tt ?_
      | with_reducible refine Br.ff ?_
      | with_reducible refine Br.not ?_
      | with_reducible refine Br.and ?_
      | with_reducible refine Br.or ?_
      | with_reducible refine Br.isT (by assumption) ?_
      | with_reducible refine Br.isF (by assumption) ?_
      | with_reducible refine Br.eqSelf ?_
      | with_reducible refine Br.eqTF ?_
      | with_reducible refine Br.eqFT ?_
      | with_reducible refine Br.eqT ?_
      | with_reducible refine Br.eqF ?_
      | with_reducible refine Br.Teq ?_
      | with_reducible refine Br.Feq ?_
      | with_reducible refine Br.beqI ?_
      | with_reducible refine Br.bneI ?_
      | with_reducible refine Br.decT (by omega) ?_
      | with_reducible refine Br.decF (by omega) ?_
      | with_reducible refine Br.dec (fun h => ?_) (fun h => ?_)
      | with_reducible refine Br.mk (fun h => ?_) (fun h => ?_)
      | with_reducible refine Side.mk (by omega) ?_
      | with_reducible refine Side.mk (by assumption) ?_
      | with_reducible refine Side.mk rfl ?_
      | refine Side.mk (by exact rfl) ?_
      | with_reducible refine Alt.l (Side.mk (by omega) ?_)
      | with_reducible refine Alt.l (Side.mk (by refine ⟨rfl, ?_⟩; simp only [List.length_cons, List.length_nil]; omega) ?_)
      | refine Alt.l (Side.mk rfl ?_)
      | with_reducible refine Alt.r (Side.mk (by omega) ?_)
      | with_reducible refine Ovf.ok (by unfold inI64; omega) ?_
      | with_reducible refine Ovf.ok (inK64_u8 _) ?_
      | with_reducible refine Ovf.ok (by simp only [inK, decide_eq_true_eq]; omega) ?_
      | with_reducible apply DrawF.mk
      | with_reducible refine ForH.mk (fun _ => ?_)
      | with_reducible apply DrawR.mk
      | with_reducible apply DrawE.mk
      | with_reducible refine Stop.mk (AWP.drawM [] mixed (by kernel_rfl) ?_)
      | with_reducible exact Abs.Fin.mk ⟨rfl, rfl⟩
      | with_reducible refine Abs.Fin.mk ?_
      | refine CallA.cu (spec_pick 7 (by omega)) (by omega) (by omega) rfl ?_; rintro _ p1 s1 ⟨x, rfl, x1, x2⟩ q1 q2
      | refine CallA.cu (spec_one 12 (by omega)) (by omega) (by omega) rfl ?_; rintro _ p1 s1 ⟨b, rfl⟩ q1 q2
      | with_reducible refine BackK.mk ?_
      | with_reducible refine Stop.b ?_
      | with_reducible refine CallA.b ?_))
  · try with_reducible refine CallB.mk ?_
    (repeat' ((conv => whnf); first
        | with_reducible refine RunM.go ?_
        | with_reducible refine AwM.go ?_
        | with_reducible refine DrawM.go ?_
        | refine NormH.go rfl ?_
        | with_reducible refine NormH.mk ?_
        | with_reducible refine Br.tt ?_
        | with_reducible refine Br.ff ?_
        | with_reducible refine Br.not ?_
        | with_reducible refine Br.and ?_
        | with_reducible refine Br.or ?_
        | with_reducible refine Br.isT (by assumption) ?_
        | with_reducible refine Br.isF (by assumption) ?_
        | with_reducible refine Br.eqSelf ?_
        | with_reducible refine Br.eqTF ?_
        | with_reducible refine Br.eqFT ?_
        | with_reducible refine Br.eqT ?_
        | with_reducible refine Br.eqF ?_
        | with_reducible refine Br.Teq ?_
        | with_reducible refine Br.Feq ?_
        | with_reducible refine Br.beqI ?_
        | with_reducible refine Br.bneI ?_
        | with_reducible refine Br.decT (by omega) ?_
        | with_reducible refine Br.decF (by omega) ?_
        | with_reducible refine Br.dec (fun h => ?_) (fun h => ?_)
        | with_reducible refine Br.mk (fun h => ?_) (fun h => ?_)
        | with_reducible refine Side.mk (by omega) ?_
        | with_reducible refine Side.mk (by assumption) ?_
        | with_reducible refine Side.mk rfl ?_
        | refine Side.mk (by exact rfl) ?_
        | with_reducible refine Alt.l (Side.mk (by omega) ?_)
        | with_reducible refine Alt.l (Side.mk (by refine ⟨rfl, ?_⟩; simp only [List.length_cons, List.length_nil]; omega) ?_)
        | refine Alt.l (Side.mk rfl ?_)
        | with_reducible refine Alt.r (Side.mk (by omega) ?_)
        | with_reducible refine Ovf.ok (by unfold inI64; omega) ?_
        | with_reducible refine Ovf.ok (inK64_u8 _) ?_
        | with_reducible refine Ovf.ok (by simp only [inK, decide_eq_true_eq]; omega) ?_
        | with_reducible apply DrawF.mk
        | with_reducible refine ForH.mk (fun _ => ?_)
        | with_reducible apply DrawR.mk
        | with_reducible apply DrawE.mk
        | with_reducible refine Stop.mk (AWP.drawM [] mixed (by kernel_rfl) ?_)
        | with_reducible exact Abs.Fin.mk ⟨rfl, rfl⟩
        | with_reducible refine Abs.Fin.mk ?_
        | refine CallA.freeze [.ptr 0 0 0, .isl .int [-1, 6, 7, 4611686018427387904]] 1 rfl ⟨.inl rfl, .inr (.inr ⟨_, rfl, rfl, rfl⟩), trivial⟩ (CallA.cu (spec_among _ (by decide) (by decide)) (by omega) (by omega) rfl ?_); rintro _ p1 s1 ⟨y, rfl, y1⟩ q1 q2
        | refine CallA.freeze [.ptr 0 0 0, .isl .int [0, 1, 28, 29, -1]] 2 rfl ⟨.inl rfl, .inr (.inr ⟨_, rfl, rfl, rfl⟩), trivial⟩ (CallA.cu (spec_among _ (by decide) (by decide)) (by omega) (by omega) rfl ?_); rintro _ p1 s1 ⟨z, rfl, z1⟩ q1 q2
        | with_reducible refine BackK.mk ?_
        | with_reducible refine Stop.b ?_
        | with_reducible refine CallA.b ?_))
    exact Done.cu _ p1 s1 (.closed _ rfl) rfl ⟨_, _, rfl⟩ rfl (by omega) (by omega)
  · have hx : 0 ≤ x ∧ x ≤ 6 := by omega
    obtain ⟨b1, b2, b3, b4⟩ := tilesN_b hx.1 hx.2
    try with_reducible refine CallB.mk ?_
    (repeat' ((conv => whnf); first
        | with_reducible refine RunM.go ?_
        | with_reducible refine AwM.go ?_
        | with_reducible refine DrawM.go ?_
        | refine NormH.go rfl ?_
        | with_reducible refine NormH.mk ?_
        | with_reducible refine Br.tt ?_
        | with_reducible refine Br.ff ?_
        | with_reducible refine Br.not ?_
        | with_reducible refine Br.and ?_
        | with_reducible refine Br.or ?_
        | with_reducible refine Br.isT (by assumption) ?_
        | with_reducible refine Br.isF (by assumption) ?_
        | with_reducible refine Br.eqSelf ?_
        | with_reducible refine Br.eqTF ?_
        | with_reducible refine Br.eqFT ?_
        | with_reducible refine Br.eqT ?_
        | with_reducible refine Br.eqF ?_
        | with_reducible refine Br.Teq ?_
        | with_reducible refine Br.Feq ?_
        | with_reducible refine Br.beqI ?_
        | with_reducible refine Br.bneI ?_
        | with_reducible refine Br.decT (by omega) ?_
        | with_reducible refine Br.decF (by omega) ?_
        | with_reducible refine Br.dec (fun h => ?_) (fun h => ?_)
        | with_reducible refine Br.mk (fun h => ?_) (fun h => ?_)
        | with_reducible refine Side.mk (by omega) ?_
        | with_reducible refine Side.mk (by assumption) ?_
        | with_reducible refine Side.mk rfl ?_
        | refine Side.mk (by exact rfl) ?_
        | with_reducible refine Alt.l (Side.mk (by omega) ?_)
        | with_reducible refine Alt.l (Side.mk (by refine ⟨rfl, ?_⟩; simp only [List.length_cons, List.length_nil]; omega) ?_)
        | refine Alt.l (Side.mk rfl ?_)
        | with_reducible refine Alt.r (Side.mk (by omega) ?_)
        | with_reducible refine Ovf.ok (by unfold inI64; omega) ?_
        | with_reducible refine Ovf.ok (inK64_u8 _) ?_
        | with_reducible refine Ovf.ok (by simp only [inK, decide_eq_true_eq]; omega) ?_
        | with_reducible apply DrawF.mk
        | with_reducible refine ForH.mk (fun _ => ?_)
        | with_reducible apply DrawR.mk
        | with_reducible apply DrawE.mk
        | with_reducible refine Stop.mk (AWP.drawM [] mixed (by kernel_rfl) ?_)
        | with_reducible exact Abs.Fin.mk ⟨rfl, rfl⟩
        | with_reducible refine Abs.Fin.mk ?_
        | refine CallA.pu (spec_dcTiles x hx.1 hx.2) rfl rfl ?_
        | refine CallA.pu (spec_l1Least 9 (tilesN x)) rfl rfl ?_
        | refine CallA.cu (spec_pick (min 9 (tilesN x) + 1) (by omega)) (by omega) (by omega) rfl ?_; rintro _ p1 s1 ⟨y, rfl, y1, y2⟩ q1 q2
        | with_reducible refine BackK.mk ?_
        | with_reducible refine Stop.b ?_
        | with_reducible refine CallA.b ?_))
    exact Done.cu _ p1 s1 (.closed _ rfl) rfl ⟨_, _, rfl⟩ rfl (by omega) (by omega)

theorem spec_DrawCountHands (code : List UInt8) : Pr C F.spec_DrawCountHands [.isl .u8 code] fun v => ∃ n k : Int, v = .tup [.int .i64 n, .int .i64 k] := by
  refine pr_of Try.func7 rfl rfl rfl ?_
  try with_reducible refine CallB.mk ?_
  (repeat' ((conv => whnf); first
      | with_reducible refine RunM.go ?_
      | with_reducible refine AwM.go ?_
      | with_reducible refine DrawM.go ?_
      | refine NormH.go rfl ?_
      | with_reducible refine NormH.mk ?_
      | with_reducible refine Br.tt ?_
      | with_reducible refine Br.ff ?_
      | with_reducible refine Br.not ?_
      | with_reducible refine Br.and ?_
      | with_reducible refine Br.or ?_
      | with_reducible refine Br.isT (by assumption) ?_
      | with_reducible refine Br.isF (by assumption) ?_
      | with_reducible refine Br.eqSelf ?_
      | with_reducible refine Br.eqTF ?_
      | with_reducible refine Br.eqFT ?_
      | with_reducible refine Br.eqT ?_
      | with_reducible refine Br.eqF ?_
      | with_reducible refine Br.Teq ?_
      | with_reducible refine Br.Feq ?_
      | with_reducible refine Br.beqI ?_
      | with_reducible refine Br.bneI ?_
      | with_reducible refine Br.decT (by omega) ?_
      | with_reducible refine Br.decF (by omega) ?_
      | with_reducible refine Br.dec (fun h => ?_) (fun h => ?_)
      | with_reducible refine Br.mk (fun h => ?_) (fun h => ?_)
      | with_reducible refine Side.mk (by omega) ?_
      | with_reducible refine Side.mk (by assumption) ?_
      | with_reducible refine Side.mk rfl ?_
      | refine Side.mk (by exact rfl) ?_
      | with_reducible refine Alt.l (Side.mk (by omega) ?_)
      | with_reducible refine Alt.l (Side.mk (by refine ⟨rfl, ?_⟩; simp only [List.length_cons, List.length_nil]; omega) ?_)
      | refine Alt.l (Side.mk rfl ?_)
      | with_reducible refine Alt.r (Side.mk (by omega) ?_)
      | with_reducible refine Ovf.ok (by unfold inI64; omega) ?_
      | with_reducible refine Ovf.ok (inK64_u8 _) ?_
      | with_reducible refine Ovf.ok (by simp only [inK, decide_eq_true_eq]; omega) ?_
      | with_reducible apply DrawF.mk
      | with_reducible refine ForH.mk (fun _ => ?_)
      | with_reducible apply DrawR.mk
      | with_reducible apply DrawE.mk
      | with_reducible refine Stop.mk (AWP.drawM [] mixed (by kernel_rfl) ?_)
      | with_reducible exact Abs.Fin.mk ⟨rfl, rfl⟩
      | with_reducible refine Abs.Fin.mk ?_
      | refine CallA.cu (code := code) (p := 0) (s := 0) (F := []) spec_drawn (by omega) (by omega) rfl ?_; rintro _ p1 s1 ⟨n, k, rfl⟩ q1 q2
      | with_reducible refine BackK.mk ?_
      | with_reducible refine Stop.b ?_
      | with_reducible refine CallA.b ?_))
  exact ⟨_, .closed _ rfl, _, _, rfl⟩

theorem spec_DrawChanceOfTiles (code : List UInt8) : Pr C F.spec_DrawChanceOfTiles [.isl .u8 code] fun v => ∃ n k m : Int, v = .tup [.int .i64 n, .int .i64 k, .int .i64 m] := by
  refine pr_of Try.func27 rfl rfl rfl ?_
  try with_reducible refine CallB.mk ?_
  (repeat' ((conv => whnf); first
      | with_reducible refine RunM.go ?_
      | with_reducible refine AwM.go ?_
      | with_reducible refine DrawM.go ?_
      | refine NormH.go rfl ?_
      | with_reducible refine NormH.mk ?_
      | with_reducible refine Br.tt ?_
      | with_reducible refine Br.ff ?_
      | with_reducible refine Br.not ?_
      | with_reducible refine Br.and ?_
      | with_reducible refine Br.or ?_
      | with_reducible refine Br.isT (by assumption) ?_
      | with_reducible refine Br.isF (by assumption) ?_
      | with_reducible refine Br.eqSelf ?_
      | with_reducible refine Br.eqTF ?_
      | with_reducible refine Br.eqFT ?_
      | with_reducible refine Br.eqT ?_
      | with_reducible refine Br.eqF ?_
      | with_reducible refine Br.Teq ?_
      | with_reducible refine Br.Feq ?_
      | with_reducible refine Br.beqI ?_
      | with_reducible refine Br.bneI ?_
      | with_reducible refine Br.decT (by omega) ?_
      | with_reducible refine Br.decF (by omega) ?_
      | with_reducible refine Br.dec (fun h => ?_) (fun h => ?_)
      | with_reducible refine Br.mk (fun h => ?_) (fun h => ?_)
      | with_reducible refine Side.mk (by omega) ?_
      | with_reducible refine Side.mk (by assumption) ?_
      | with_reducible refine Side.mk rfl ?_
      | refine Side.mk (by exact rfl) ?_
      | with_reducible refine Alt.l (Side.mk (by omega) ?_)
      | with_reducible refine Alt.l (Side.mk (by refine ⟨rfl, ?_⟩; simp only [List.length_cons, List.length_nil]; omega) ?_)
      | refine Alt.l (Side.mk rfl ?_)
      | with_reducible refine Alt.r (Side.mk (by omega) ?_)
      | with_reducible refine Ovf.ok (by unfold inI64; omega) ?_
      | with_reducible refine Ovf.ok (inK64_u8 _) ?_
      | with_reducible refine Ovf.ok (by simp only [inK, decide_eq_true_eq]; omega) ?_
      | with_reducible apply DrawF.mk
      | with_reducible refine ForH.mk (fun _ => ?_)
      | with_reducible apply DrawR.mk
      | with_reducible apply DrawE.mk
      | with_reducible refine Stop.mk (AWP.drawM [] mixed (by kernel_rfl) ?_)
      | with_reducible exact Abs.Fin.mk ⟨rfl, rfl⟩
      | with_reducible refine Abs.Fin.mk ?_
      | refine CallA.cu (code := code) (p := 0) (s := 0) (F := []) spec_drawn (by omega) (by omega) rfl ?_; rintro _ p1 s1 ⟨n, k, rfl⟩ q1 q2
      | refine CallA.cu (spec_pick 8 (by omega)) (by omega) (by omega) rfl ?_; rintro _ p1 s1 ⟨y, rfl, y1, y2⟩ q1 q2
      | refine CallA.cu (spec_pick 9 (by omega)) (by omega) (by omega) rfl ?_; rintro _ p1 s1 ⟨z, rfl, z1, z2⟩ q1 q2
      | with_reducible refine BackK.mk ?_
      | with_reducible refine Stop.b ?_
      | with_reducible refine CallA.b ?_))
  exact ⟨_, .closed _ rfl, _, _, _, rfl⟩

end Go.Proofs.Ytpignhcdfioldaa
