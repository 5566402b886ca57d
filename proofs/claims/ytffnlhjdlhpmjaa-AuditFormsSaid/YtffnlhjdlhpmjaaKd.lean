/- Sorting, tidying and turning round of edits, walked. -/
import Derived.Test.YtffnlhjdlhpmjaaProg
import Derived.Test.YtffnlhjdlhpmjaaKc
import Derived.Test.YtffnlhjdlhpmjaaMvD
import Derived.KernelRfl
set_option linter.all false
namespace Go.Proofs.Ytffnlhjdlhpmjaa
open Go.Proofs Mv
def chgT (t : Turn) : Bool := decide (t.before = t.after)
def chgH (h : Hold) : Bool := decide (h.before = h.after)
def tidyT (l : List Turn) : List Turn := isort Turn.car [] (l.filter fun x => !chgT x)
def tidyH (l : List Hold) : List Hold := isort Hold.n [] (l.filter fun x => !chgH x)
def tidyD (d : Delta) : Delta := ⟨tidyT d.turns, tidyH d.locks, tidyH d.ices⟩
def invT (t : Turn) : Turn := ⟨t.car, t.after, t.before⟩
def invH (h : Hold) : Hold := ⟨h.n, h.after, h.before⟩
def invD (d : Delta) : Delta := ⟨d.turns.map invT, d.locks.map invH, d.ices.map invH⟩

set_option maxRecDepth 100000 in
set_option maxHeartbeats 4000000 in
theorem sortTS (k : Turn → Int) (x : Turn) (r0 : List Turn) (hl : (x :: r0).length < 20) (A : FuncId) (hA : ∀ a b, CallsV Try.prog A [.agg (kt a), .agg (kt b)] (.int .i64 (cmpI (k a) (k b)))) : CallsM Try.prog 105 [.slo 3 (em kt (x :: r0)), .int .i64 ((x :: r0).length : Int), .fn A []] (some 0) fun res q => res = .tup [] ∧ q = .slo 3 (em kt (isort k [] (x :: r0))) := by
  refine CallsM.intro (ls := [.own 500000000 0 0 (x :: r0).length none, .int .i64 ((x :: r0).length : Int), .fn A []]) (e := [(500000000, ⟨0, false, .slc, 3, em kt (x :: r0)⟩)]) (ju := some (.own 500000000 0 0 (x :: r0).length none)) (I0.sound _) mix Try.func105 rfl rfl (by simp [Try.f105]) (by kernel_rfl) (nb := 0) rfl (by simp [impAs, impT, impV, impC, genAt, em_len]) (fun k hk => by cases hk; exact ⟨_, rfl, rfl⟩) (fun h => by cases h) ?_
  unfold Try.f105
  refine Wp.seqI ?_
  refine Wp.regI I0.mono ?_
  refine GL.assign I0.mono (by conv => lhs; whnf) ?_
  refine GL.doneF ?_
  refine goOn ?_
  refine Wp.seqI ?_
  refine Wp.regI I0.mono ?_
  refine GL.move I0.mono (by conv => lhs; whnf) ?_
  refine GL.assign I0.mono (by conv => lhs; whnf) ?_
  refine GL.assign I0.mono (by conv => lhs; whnf) ?_
  refine GL.doneF ?_
  refine goOn ?_
  refine Wp.seqI ?_
  refine Wp.blockI ?_
  refine Wp.loopI I0.mono (α := Unit) (fun _ st => (True) ∧ ∃ m0, st = ⟨(updS (updS (updS (updS (updS (updS (fun _ => LV.undef) 0 (.own 500000000 0 0 (x :: r0).length none)) 1 (.int .i64 ((x :: r0).length : Int))) 2 (.fn A [])) 6 (.int .i64 20)) 7 (.int .i64 0)) 8 (.int .i64 20)), effM m0 [(500000000, ⟨0, false, .slc, 3, em kt (x :: r0)⟩)]⟩) (fun _ => 0) () ⟨_, (LessS.weak (LessS.upd (LessS.upd (LessS.upd (LessS.upd (LessS.upd (LessS.upd (LessS.nil _) rfl) rfl) rfl) rfl) rfl) rfl) _), trivial, _, (congrArg (St.mk _) (effM_eq (Has.cons rfl Has.nil)).symm)⟩ ?_
  rintro _ _ ⟨-, m0, rfl⟩
  refine Wp.seqI ?_
  refine Wp.seqI ?_
  refine Wp.regI I0.mono ?_
  refine GL.move I0.mono (by conv => lhs; whnf) ?_
  refine GL.move I0.mono (by conv => lhs; whnf) ?_
  refine GL.bin I0.mono rfl ?_
  refine GL.doneF ?_
  refine goOn ?_
  refine Wp.condI rfl (fun h13 => ?_) (fun h13 => ?_)
  ·replace h13 := of_decide_eq_true h13
   exact absurd h13 (by omega)
  ·replace h13 := of_decide_eq_false h13
   refine Wp.exitI ?_
   refine thenX.exit ?_
   refine thenX.exit ?_
   refine blockX.out ?_
   refine goOn ?_
   refine Wp.seqI ?_
   refine Wp.regI I0.mono ?_
   refine GL.move I0.mono (by conv => lhs; whnf) ?_
   refine GL.move I0.mono (by conv => lhs; whnf) ?_
   refine GL.move I0.mono (by conv => lhs; whnf) ?_
   refine GL.move I0.mono (by conv => lhs; whnf) ?_
   refine GL.lendS I0.mono (T := []) (es' := em kt (isort k [] (x :: r0))) rfl rfl rfl rfl rfl rfl rfl (by rw [em_len]) (by simp) rfl (by rw [em_len, em_len, isort_len]; simp) (Frz.aggc (Frz.pure rfl) (Frz.aggc (Frz.pure rfl) (Frz.aggc (Frz.fn Frz.aggn) Frz.aggn))) (by decide) (isrtT k x r0 (by omega) A hA) ?_
   refine GL.doneF ?_
   refine goOn ?_
   refine Wp.blockI ?_
   refine Wp.loopI I0.mono (α := Unit) (fun _ st => (True) ∧ ∃ m0, st = ⟨(updS (updS (updS (updS (fun _ => LV.undef) 0 (.own 500000000 0 0 (x :: r0).length none)) 1 (.int .i64 ((x :: r0).length : Int))) 2 (.fn A [])) 6 (.int .i64 20)), effM m0 [(500000000, ⟨0, false, .slc, 3, em kt (isort k [] (x :: r0))⟩)]⟩) (fun _ => 0) () ⟨_, (LessS.weak (LessS.upd (LessS.upd (LessS.upd (LessS.upd (LessS.nil _) rfl) rfl) rfl) rfl) _), trivial, _, (congrArg (St.mk _) (effM_eq (Has.cons rfl Has.nil)).symm)⟩ ?_
   rintro _ _ ⟨-, m0, rfl⟩
   refine Wp.seqI ?_
   refine Wp.seqI ?_
   refine Wp.regI I0.mono ?_
   refine GL.move I0.mono (by conv => lhs; whnf) ?_
   refine GL.move I0.mono (by conv => lhs; whnf) ?_
   refine GL.bin I0.mono rfl ?_
   refine GL.doneF ?_
   refine goOn ?_
   refine Wp.condI rfl (fun h30 => ?_) (fun h30 => ?_)
   ·replace h30 := of_decide_eq_true h30
    exact absurd h30 (by omega)
   ·replace h30 := of_decide_eq_false h30
    refine Wp.exitI ?_
    refine thenX.exit ?_
    refine thenX.exit ?_
    refine blockX.out ?_
    refine RetJX.normal ?_
    refine ⟨_, _, _, _, _, .nil, .aggc (.tup .aggn) (.aggc (.slo (b := 500000000) rfl rfl rfl rfl (by rw [em_len, isort_len]; simp)) .aggn), by simp, by simp, rfl, rfl⟩

set_option maxRecDepth 100000 in
set_option maxHeartbeats 4000000 in
theorem sortTP (k : Turn → Int) (x : Turn) (r0 : List Turn) (hl : (x :: r0).length < 20) (A : FuncId) (hA : ∀ a b, CallsV Try.prog A [.agg (kt a), .agg (kt b)] (.int .i64 (cmpI (k a) (k b)))) : CallsM Try.prog 64 [.slo 3 (em kt (x :: r0)), .fn A []] (some 0) fun res q => res = .tup [] ∧ q = .slo 3 (em kt (isort k [] (x :: r0))) := by
  refine CallsM.intro (ls := [.own 500000000 0 0 (x :: r0).length none, .fn A []]) (e := [(500000000, ⟨0, false, .slc, 3, em kt (x :: r0)⟩)]) (ju := some (.own 500000000 0 0 (x :: r0).length none)) (I0.sound _) mix Try.func64 rfl rfl (by simp [Try.f64]) (by kernel_rfl) (nb := 0) rfl (by simp [impAs, impT, impV, impC, genAt, em_len]) (fun k hk => by cases hk; exact ⟨_, rfl, rfl⟩) (fun h => by cases h) ?_
  unfold Try.f64
  refine Wp.regI I0.mono ?_
  refine GL.move I0.mono (by conv => lhs; whnf) ?_
  refine GL.move I0.mono (by conv => lhs; whnf) ?_
  refine GL.lenO I0.mono rfl rfl rfl rfl ?_
  refine GL.move I0.mono (by conv => lhs; whnf) ?_
  refine GL.lendS I0.mono (T := []) (es' := em kt (isort k [] (x :: r0))) rfl rfl rfl rfl rfl rfl rfl (by rw [em_len]) (by simp) rfl (by rw [em_len, em_len, isort_len]; simp) (Frz.aggc (Frz.pure rfl) (Frz.aggc (Frz.fn Frz.aggn) Frz.aggn)) (by decide) (sortTS k x r0 hl A hA) ?_
  refine GL.doneF ?_
  refine RetJX.normal ?_
  refine ⟨_, _, _, _, _, .nil, .aggc (.tup .aggn) (.aggc (.slo (b := 500000000) rfl rfl rfl rfl (by rw [em_len, isort_len]; simp)) .aggn), by simp, by simp, rfl, rfl⟩

set_option maxRecDepth 100000 in
set_option maxHeartbeats 4000000 in
theorem sortTN0 (A : FuncId) : CallsV Try.prog 105 [.sl (em kt []), .int .i64 0, .fn A []] (.tup []) := by
  refine CallsR.intro (I0.sound _) mix Try.func105 rfl rfl (by simp [Try.f105]) (by kernel_rfl) (nb := 0) ?_
  unfold Try.f105
  refine Wp.seqI ?_
  refine Wp.regI I0.mono ?_
  refine GL.assign I0.mono (by conv => lhs; whnf) ?_
  refine GL.doneF ?_
  refine goOn ?_
  refine Wp.seqI ?_
  refine Wp.regI I0.mono ?_
  refine GL.move I0.mono (by conv => lhs; whnf) ?_
  refine GL.assign I0.mono (by conv => lhs; whnf) ?_
  refine GL.assign I0.mono (by conv => lhs; whnf) ?_
  refine GL.doneF ?_
  refine goOn ?_
  refine Wp.seqI ?_
  refine Wp.blockI ?_
  refine Wp.loopI I0.mono (α := Unit) (fun _ st => (True) ∧ ∃ m0, st = ⟨(updS (updS (updS (updS (updS (updS (fun _ => LV.undef) 0 (.sl (em kt []))) 1 (.int .i64 0)) 2 (.fn A [])) 6 (.int .i64 20)) 7 (.int .i64 0)) 8 (.int .i64 20)), effM m0 []⟩) (fun _ => 0) () ⟨_, (LessS.weak (LessS.upd (LessS.upd (LessS.upd (LessS.upd (LessS.upd (LessS.upd (LessS.nil _) rfl) rfl) rfl) rfl) rfl) rfl) _), trivial, _, (congrArg (St.mk _) (effM_eq Has.nil).symm)⟩ ?_
  rintro _ _ ⟨-, m0, rfl⟩
  refine Wp.seqI ?_
  refine Wp.seqI ?_
  refine Wp.regI I0.mono ?_
  refine GL.move I0.mono (by conv => lhs; whnf) ?_
  refine GL.move I0.mono (by conv => lhs; whnf) ?_
  refine GL.bin I0.mono rfl ?_
  refine GL.doneF ?_
  refine goOn ?_
  refine Wp.condI rfl (fun h13 => ?_) (fun h13 => ?_)
  ·replace h13 := of_decide_eq_true h13
   exact absurd h13 (by decide)
  ·replace h13 := of_decide_eq_false h13
   refine Wp.exitI ?_
   refine thenX.exit ?_
   refine thenX.exit ?_
   refine blockX.out ?_
   refine goOn ?_
   refine Wp.seqI ?_
   refine Wp.regI I0.mono ?_
   refine GL.move I0.mono (by conv => lhs; whnf) ?_
   refine GL.move I0.mono (by conv => lhs; whnf) ?_
   refine GL.move I0.mono (by conv => lhs; whnf) ?_
   refine GL.move I0.mono (by conv => lhs; whnf) ?_
   refine GL.call0 I0.mono rfl (Frz.aggc (by exact Frz.pure rfl) (Frz.aggc (by exact Frz.pure rfl) (Frz.aggc (by exact Frz.pure rfl) (Frz.aggc (by exact Frz.fn Frz.aggn) (Frz.aggn))))) (isrtTN A) rfl rfl (fun _ => rfl) ?_
   refine GL.doneF ?_
   refine goOn ?_
   refine Wp.blockI ?_
   refine Wp.loopI I0.mono (α := Unit) (fun _ st => (True) ∧ ∃ m0, st = ⟨(updS (updS (updS (updS (fun _ => LV.undef) 0 (.sl (em kt []))) 1 (.int .i64 0)) 2 (.fn A [])) 6 (.int .i64 20)), effM m0 []⟩) (fun _ => 0) () ⟨_, (LessS.weak (LessS.upd (LessS.upd (LessS.upd (LessS.upd (LessS.nil _) rfl) rfl) rfl) rfl) _), trivial, _, (congrArg (St.mk _) (effM_eq Has.nil).symm)⟩ ?_
   rintro _ _ ⟨-, m0, rfl⟩
   refine Wp.seqI ?_
   refine Wp.seqI ?_
   refine Wp.regI I0.mono ?_
   refine GL.move I0.mono (by conv => lhs; whnf) ?_
   refine GL.move I0.mono (by conv => lhs; whnf) ?_
   refine GL.bin I0.mono rfl ?_
   refine GL.doneF ?_
   refine goOn ?_
   refine Wp.condI rfl (fun h30 => ?_) (fun h30 => ?_)
   ·replace h30 := of_decide_eq_true h30
    exact absurd h30 (by decide)
   ·replace h30 := of_decide_eq_false h30
    refine Wp.exitI ?_
    refine thenX.exit ?_
    refine thenX.exit ?_
    refine blockX.out ?_
    refine RetX.normal ?_
    refine ⟨_, _, _, _, .nil, .tup .aggn, List.nodup_nil, by simp, rfl⟩

set_option maxRecDepth 100000 in
set_option maxHeartbeats 4000000 in
theorem sortTN (A : FuncId) : CallsV Try.prog 64 [.sl (em kt []), .fn A []] (.tup []) := by
  refine CallsR.intro (I0.sound _) mix Try.func64 rfl rfl (by simp [Try.f64]) (by kernel_rfl) (nb := 0) ?_
  unfold Try.f64
  refine Wp.regI I0.mono ?_
  refine GL.move I0.mono (by conv => lhs; whnf) ?_
  refine GL.move I0.mono (by conv => lhs; whnf) ?_
  refine GL.lenF I0.mono rfl rfl (em_len _ _) ?_
  refine GL.move I0.mono (by conv => lhs; whnf) ?_
  refine GL.call0 I0.mono rfl (Frz.aggc (by exact Frz.pure rfl) (Frz.aggc (by exact Frz.pure rfl) (Frz.aggc (by exact Frz.fn Frz.aggn) (Frz.aggn)))) (sortTN0 A) rfl rfl (fun _ => rfl) ?_
  refine GL.doneF ?_
  refine RetX.normal ?_
  refine ⟨_, _, _, _, .nil, .tup .aggn, List.nodup_nil, by simp, rfl⟩

set_option maxRecDepth 100000 in
set_option maxHeartbeats 4000000 in
theorem sortHS (k : Hold → Int) (x : Hold) (r0 : List Hold) (hl : (x :: r0).length < 20) (A : FuncId) (hA : ∀ a b, CallsV Try.prog A [.agg (kh a), .agg (kh b)] (.int .i64 (cmpI (k a) (k b)))) : CallsM Try.prog 146 [.slo 3 (em kh (x :: r0)), .int .i64 ((x :: r0).length : Int), .fn A []] (some 0) fun res q => res = .tup [] ∧ q = .slo 3 (em kh (isort k [] (x :: r0))) := by
  refine CallsM.intro (ls := [.own 500000000 0 0 (x :: r0).length none, .int .i64 ((x :: r0).length : Int), .fn A []]) (e := [(500000000, ⟨0, false, .slc, 3, em kh (x :: r0)⟩)]) (ju := some (.own 500000000 0 0 (x :: r0).length none)) (I0.sound _) mix Try.func146 rfl rfl (by simp [Try.f146]) (by kernel_rfl) (nb := 0) rfl (by simp [impAs, impT, impV, impC, genAt, em_len]) (fun k hk => by cases hk; exact ⟨_, rfl, rfl⟩) (fun h => by cases h) ?_
  unfold Try.f146
  refine Wp.seqI ?_
  refine Wp.regI I0.mono ?_
  refine GL.assign I0.mono (by conv => lhs; whnf) ?_
  refine GL.doneF ?_
  refine goOn ?_
  refine Wp.seqI ?_
  refine Wp.regI I0.mono ?_
  refine GL.move I0.mono (by conv => lhs; whnf) ?_
  refine GL.assign I0.mono (by conv => lhs; whnf) ?_
  refine GL.assign I0.mono (by conv => lhs; whnf) ?_
  refine GL.doneF ?_
  refine goOn ?_
  refine Wp.seqI ?_
  refine Wp.blockI ?_
  refine Wp.loopI I0.mono (α := Unit) (fun _ st => (True) ∧ ∃ m0, st = ⟨(updS (updS (updS (updS (updS (updS (fun _ => LV.undef) 0 (.own 500000000 0 0 (x :: r0).length none)) 1 (.int .i64 ((x :: r0).length : Int))) 2 (.fn A [])) 6 (.int .i64 20)) 7 (.int .i64 0)) 8 (.int .i64 20)), effM m0 [(500000000, ⟨0, false, .slc, 3, em kh (x :: r0)⟩)]⟩) (fun _ => 0) () ⟨_, (LessS.weak (LessS.upd (LessS.upd (LessS.upd (LessS.upd (LessS.upd (LessS.upd (LessS.nil _) rfl) rfl) rfl) rfl) rfl) rfl) _), trivial, _, (congrArg (St.mk _) (effM_eq (Has.cons rfl Has.nil)).symm)⟩ ?_
  rintro _ _ ⟨-, m0, rfl⟩
  refine Wp.seqI ?_
  refine Wp.seqI ?_
  refine Wp.regI I0.mono ?_
  refine GL.move I0.mono (by conv => lhs; whnf) ?_
  refine GL.move I0.mono (by conv => lhs; whnf) ?_
  refine GL.bin I0.mono rfl ?_
  refine GL.doneF ?_
  refine goOn ?_
  refine Wp.condI rfl (fun h13 => ?_) (fun h13 => ?_)
  ·replace h13 := of_decide_eq_true h13
   exact absurd h13 (by omega)
  ·replace h13 := of_decide_eq_false h13
   refine Wp.exitI ?_
   refine thenX.exit ?_
   refine thenX.exit ?_
   refine blockX.out ?_
   refine goOn ?_
   refine Wp.seqI ?_
   refine Wp.regI I0.mono ?_
   refine GL.move I0.mono (by conv => lhs; whnf) ?_
   refine GL.move I0.mono (by conv => lhs; whnf) ?_
   refine GL.move I0.mono (by conv => lhs; whnf) ?_
   refine GL.move I0.mono (by conv => lhs; whnf) ?_
   refine GL.lendS I0.mono (T := []) (es' := em kh (isort k [] (x :: r0))) rfl rfl rfl rfl rfl rfl rfl (by rw [em_len]) (by simp) rfl (by rw [em_len, em_len, isort_len]; simp) (Frz.aggc (Frz.pure rfl) (Frz.aggc (Frz.pure rfl) (Frz.aggc (Frz.fn Frz.aggn) Frz.aggn))) (by decide) (isrtH k x r0 (by omega) A hA) ?_
   refine GL.doneF ?_
   refine goOn ?_
   refine Wp.blockI ?_
   refine Wp.loopI I0.mono (α := Unit) (fun _ st => (True) ∧ ∃ m0, st = ⟨(updS (updS (updS (updS (fun _ => LV.undef) 0 (.own 500000000 0 0 (x :: r0).length none)) 1 (.int .i64 ((x :: r0).length : Int))) 2 (.fn A [])) 6 (.int .i64 20)), effM m0 [(500000000, ⟨0, false, .slc, 3, em kh (isort k [] (x :: r0))⟩)]⟩) (fun _ => 0) () ⟨_, (LessS.weak (LessS.upd (LessS.upd (LessS.upd (LessS.upd (LessS.nil _) rfl) rfl) rfl) rfl) _), trivial, _, (congrArg (St.mk _) (effM_eq (Has.cons rfl Has.nil)).symm)⟩ ?_
   rintro _ _ ⟨-, m0, rfl⟩
   refine Wp.seqI ?_
   refine Wp.seqI ?_
   refine Wp.regI I0.mono ?_
   refine GL.move I0.mono (by conv => lhs; whnf) ?_
   refine GL.move I0.mono (by conv => lhs; whnf) ?_
   refine GL.bin I0.mono rfl ?_
   refine GL.doneF ?_
   refine goOn ?_
   refine Wp.condI rfl (fun h30 => ?_) (fun h30 => ?_)
   ·replace h30 := of_decide_eq_true h30
    exact absurd h30 (by omega)
   ·replace h30 := of_decide_eq_false h30
    refine Wp.exitI ?_
    refine thenX.exit ?_
    refine thenX.exit ?_
    refine blockX.out ?_
    refine RetJX.normal ?_
    refine ⟨_, _, _, _, _, .nil, .aggc (.tup .aggn) (.aggc (.slo (b := 500000000) rfl rfl rfl rfl (by rw [em_len, isort_len]; simp)) .aggn), by simp, by simp, rfl, rfl⟩

set_option maxRecDepth 100000 in
set_option maxHeartbeats 4000000 in
theorem sortHP (k : Hold → Int) (x : Hold) (r0 : List Hold) (hl : (x :: r0).length < 20) (A : FuncId) (hA : ∀ a b, CallsV Try.prog A [.agg (kh a), .agg (kh b)] (.int .i64 (cmpI (k a) (k b)))) : CallsM Try.prog 110 [.slo 3 (em kh (x :: r0)), .fn A []] (some 0) fun res q => res = .tup [] ∧ q = .slo 3 (em kh (isort k [] (x :: r0))) := by
  refine CallsM.intro (ls := [.own 500000000 0 0 (x :: r0).length none, .fn A []]) (e := [(500000000, ⟨0, false, .slc, 3, em kh (x :: r0)⟩)]) (ju := some (.own 500000000 0 0 (x :: r0).length none)) (I0.sound _) mix Try.func110 rfl rfl (by simp [Try.f110]) (by kernel_rfl) (nb := 0) rfl (by simp [impAs, impT, impV, impC, genAt, em_len]) (fun k hk => by cases hk; exact ⟨_, rfl, rfl⟩) (fun h => by cases h) ?_
  unfold Try.f110
  refine Wp.regI I0.mono ?_
  refine GL.move I0.mono (by conv => lhs; whnf) ?_
  refine GL.move I0.mono (by conv => lhs; whnf) ?_
  refine GL.lenO I0.mono rfl rfl rfl rfl ?_
  refine GL.move I0.mono (by conv => lhs; whnf) ?_
  refine GL.lendS I0.mono (T := []) (es' := em kh (isort k [] (x :: r0))) rfl rfl rfl rfl rfl rfl rfl (by rw [em_len]) (by simp) rfl (by rw [em_len, em_len, isort_len]; simp) (Frz.aggc (Frz.pure rfl) (Frz.aggc (Frz.fn Frz.aggn) Frz.aggn)) (by decide) (sortHS k x r0 hl A hA) ?_
  refine GL.doneF ?_
  refine RetJX.normal ?_
  refine ⟨_, _, _, _, _, .nil, .aggc (.tup .aggn) (.aggc (.slo (b := 500000000) rfl rfl rfl rfl (by rw [em_len, isort_len]; simp)) .aggn), by simp, by simp, rfl, rfl⟩

set_option maxRecDepth 100000 in
set_option maxHeartbeats 4000000 in
theorem sortHN0 (A : FuncId) : CallsV Try.prog 146 [.sl (em kh []), .int .i64 0, .fn A []] (.tup []) := by
  refine CallsR.intro (I0.sound _) mix Try.func146 rfl rfl (by simp [Try.f146]) (by kernel_rfl) (nb := 0) ?_
  unfold Try.f146
  refine Wp.seqI ?_
  refine Wp.regI I0.mono ?_
  refine GL.assign I0.mono (by conv => lhs; whnf) ?_
  refine GL.doneF ?_
  refine goOn ?_
  refine Wp.seqI ?_
  refine Wp.regI I0.mono ?_
  refine GL.move I0.mono (by conv => lhs; whnf) ?_
  refine GL.assign I0.mono (by conv => lhs; whnf) ?_
  refine GL.assign I0.mono (by conv => lhs; whnf) ?_
  refine GL.doneF ?_
  refine goOn ?_
  refine Wp.seqI ?_
  refine Wp.blockI ?_
  refine Wp.loopI I0.mono (α := Unit) (fun _ st => (True) ∧ ∃ m0, st = ⟨(updS (updS (updS (updS (updS (updS (fun _ => LV.undef) 0 (.sl (em kh []))) 1 (.int .i64 0)) 2 (.fn A [])) 6 (.int .i64 20)) 7 (.int .i64 0)) 8 (.int .i64 20)), effM m0 []⟩) (fun _ => 0) () ⟨_, (LessS.weak (LessS.upd (LessS.upd (LessS.upd (LessS.upd (LessS.upd (LessS.upd (LessS.nil _) rfl) rfl) rfl) rfl) rfl) rfl) _), trivial, _, (congrArg (St.mk _) (effM_eq Has.nil).symm)⟩ ?_
  rintro _ _ ⟨-, m0, rfl⟩
  refine Wp.seqI ?_
  refine Wp.seqI ?_
  refine Wp.regI I0.mono ?_
  refine GL.move I0.mono (by conv => lhs; whnf) ?_
  refine GL.move I0.mono (by conv => lhs; whnf) ?_
  refine GL.bin I0.mono rfl ?_
  refine GL.doneF ?_
  refine goOn ?_
  refine Wp.condI rfl (fun h13 => ?_) (fun h13 => ?_)
  ·replace h13 := of_decide_eq_true h13
   exact absurd h13 (by decide)
  ·replace h13 := of_decide_eq_false h13
   refine Wp.exitI ?_
   refine thenX.exit ?_
   refine thenX.exit ?_
   refine blockX.out ?_
   refine goOn ?_
   refine Wp.seqI ?_
   refine Wp.regI I0.mono ?_
   refine GL.move I0.mono (by conv => lhs; whnf) ?_
   refine GL.move I0.mono (by conv => lhs; whnf) ?_
   refine GL.move I0.mono (by conv => lhs; whnf) ?_
   refine GL.move I0.mono (by conv => lhs; whnf) ?_
   refine GL.call0 I0.mono rfl (Frz.aggc (by exact Frz.pure rfl) (Frz.aggc (by exact Frz.pure rfl) (Frz.aggc (by exact Frz.pure rfl) (Frz.aggc (by exact Frz.fn Frz.aggn) (Frz.aggn))))) (isrtHN A) rfl rfl (fun _ => rfl) ?_
   refine GL.doneF ?_
   refine goOn ?_
   refine Wp.blockI ?_
   refine Wp.loopI I0.mono (α := Unit) (fun _ st => (True) ∧ ∃ m0, st = ⟨(updS (updS (updS (updS (fun _ => LV.undef) 0 (.sl (em kh []))) 1 (.int .i64 0)) 2 (.fn A [])) 6 (.int .i64 20)), effM m0 []⟩) (fun _ => 0) () ⟨_, (LessS.weak (LessS.upd (LessS.upd (LessS.upd (LessS.upd (LessS.nil _) rfl) rfl) rfl) rfl) _), trivial, _, (congrArg (St.mk _) (effM_eq Has.nil).symm)⟩ ?_
   rintro _ _ ⟨-, m0, rfl⟩
   refine Wp.seqI ?_
   refine Wp.seqI ?_
   refine Wp.regI I0.mono ?_
   refine GL.move I0.mono (by conv => lhs; whnf) ?_
   refine GL.move I0.mono (by conv => lhs; whnf) ?_
   refine GL.bin I0.mono rfl ?_
   refine GL.doneF ?_
   refine goOn ?_
   refine Wp.condI rfl (fun h30 => ?_) (fun h30 => ?_)
   ·replace h30 := of_decide_eq_true h30
    exact absurd h30 (by decide)
   ·replace h30 := of_decide_eq_false h30
    refine Wp.exitI ?_
    refine thenX.exit ?_
    refine thenX.exit ?_
    refine blockX.out ?_
    refine RetX.normal ?_
    refine ⟨_, _, _, _, .nil, .tup .aggn, List.nodup_nil, by simp, rfl⟩

set_option maxRecDepth 100000 in
set_option maxHeartbeats 4000000 in
theorem sortHN (A : FuncId) : CallsV Try.prog 110 [.sl (em kh []), .fn A []] (.tup []) := by
  refine CallsR.intro (I0.sound _) mix Try.func110 rfl rfl (by simp [Try.f110]) (by kernel_rfl) (nb := 0) ?_
  unfold Try.f110
  refine Wp.regI I0.mono ?_
  refine GL.move I0.mono (by conv => lhs; whnf) ?_
  refine GL.move I0.mono (by conv => lhs; whnf) ?_
  refine GL.lenF I0.mono rfl rfl (em_len _ _) ?_
  refine GL.move I0.mono (by conv => lhs; whnf) ?_
  refine GL.call0 I0.mono rfl (Frz.aggc (by exact Frz.pure rfl) (Frz.aggc (by exact Frz.pure rfl) (Frz.aggc (by exact Frz.fn Frz.aggn) (Frz.aggn)))) (sortHN0 A) rfl rfl (fun _ => rfl) ?_
  refine GL.doneF ?_
  refine RetX.normal ?_
  refine ⟨_, _, _, _, .nil, .tup .aggn, List.nodup_nil, by simp, rfl⟩

set_option maxRecDepth 100000 in
set_option maxHeartbeats 4000000 in
theorem tidyH_ok (l : List Hold) (hl : l.length < 20) : CallsV Try.prog 67 [.sl (em kh l)] (.slo 3 (em kh (tidyH l))) := by
  refine CallsR.intro (I0.sound _) mix Try.func67 rfl rfl (by simp [Try.f67]) (by kernel_rfl) (nb := 0) ?_
  unfold Try.f67
  refine Wp.seqI ?_
  refine Wp.regI I0.mono ?_
  refine GL.assign I0.mono (by conv => lhs; whnf) ?_
  refine GL.doneF ?_
  refine goOn ?_
  refine Wp.seqI ?_
  refine Wp.regI I0.mono ?_
  refine GL.move I0.mono (by conv => lhs; whnf) ?_
  refine GL.callSlo I0.mono (n := l.length) rfl (Frz.aggc (Frz.pure rfl) Frz.aggn) (cloneH l (by omega)) rfl (em_len _ _) ?_
  intro g5
  refine GL.lendT I0.mono (es' := em kh (l.filter fun x => !chgH x)) rfl rfl rfl rfl rfl rfl rfl (by rw [em_len]) rfl (Frz.aggc (Frz.fn Frz.aggn) Frz.aggn) (delH l (by omega) 109 [] rfl chgH (fun t _ => samH_ok t)) (em_len _ _) ?_
  intro y7 g7
  refine GL.assign I0.mono (by conv => lhs; whnf) ?_
  refine GL.doneF ?_
  refine goOn ?_
  refine Wp.seqI ?_
  rcases hF : l.filter (fun x => !chgH x) with _ | ⟨x, r0⟩
  ·skip
   refine Wp.regI I0.mono ?_
   refine GL.move I0.mono (by conv => lhs; whnf) ?_
   refine GL.callFl I0.mono rfl (Frz.aggc (by exact Frz.whole rfl rfl rfl rfl rfl) (Frz.aggc (Frz.fn Frz.aggn) Frz.aggn)) (sortHN 111) (.tup .aggn) rfl rfl ?_
   refine GL.doneF ?_
   refine goOn ?_
   refine Wp.seqI ?_
   refine Wp.regI I0.mono ?_
   refine GL.move I0.mono (by conv => lhs; whnf) ?_
   refine GL.assign I0.mono (by conv => lhs; whnf) ?_
   refine GL.doneF ?_
   refine goOn ?_
   refine Wp.retI ?_
   refine RetX.ret ?_
   unfold tidyH
   rw [hF]
   exact ⟨_, _, _, _, .cons (.tmp rfl) .nil, .slo rfl rfl rfl rfl (by rfl), by simp, by simp, rfl⟩
  ·skip
   refine Wp.regI I0.mono ?_
   refine GL.move I0.mono (by conv => lhs; whnf) ?_
   refine GL.lendS I0.mono (T := []) (es' := em kh (isort Hold.n [] (x :: r0))) rfl rfl rfl rfl rfl rfl rfl (by rw [em_len]) (by simp) rfl (by rw [em_len, em_len, isort_len]; simp) (Frz.aggc (Frz.fn Frz.aggn) Frz.aggn) (by decide) (sortHP Hold.n x r0 (by have := List.length_filter_le (fun x => !chgH x) l; rw [hF] at this; omega) 111 cmpH_ok) ?_
   refine GL.doneF ?_
   refine goOn ?_
   refine Wp.seqI ?_
   refine Wp.regI I0.mono ?_
   refine GL.move I0.mono (by conv => lhs; whnf) ?_
   refine GL.assign I0.mono (by conv => lhs; whnf) ?_
   refine GL.doneF ?_
   refine goOn ?_
   refine Wp.retI ?_
   refine RetX.ret ?_
   unfold tidyH
   rw [hF]
   exact ⟨_, _, _, _, .cons (.tmp rfl) .nil, .slo rfl rfl rfl rfl (by (rw [em_len, isort_len]; simp)), by simp, by simp, rfl⟩

theorem tidyH_f (l : List Hold) (hl : l.length < 20) : CallsV Try.prog 67 [.sl (em kh l)] (.sl (em kh (tidyH l))) := (tidyH_ok l hl).freeze rfl
theorem turns_f (l : List Turn) (hl : l.length ≤ 4294967295) (A : FuncId) (G : Turn → Turn) (hA : ∀ t ∈ l, CallsV Try.prog A [.agg (kt t)] (.agg (kt (G t)))) (hS : ∀ t ∈ l, (G t).before.length ≤ 4294967296 ∧ (G t).after.length ≤ 4294967296) : CallsV Try.prog 58 [.sl (em kt l), .fn A []] (.sl (em kt (l.map G))) := (turns_ok l hl A G hA hS).freeze rfl
theorem holds_f (l : List Hold) (hl : l.length ≤ 4294967295) : CallsV Try.prog 59 [.sl (em kh l)] (.sl (em kh (l.map invH))) := (holds_ok l hl).freeze rfl
def OkD (d : Delta) : Prop := d.turns.length < 20 ∧ d.locks.length < 20 ∧ d.ices.length < 20 ∧ ∀ t ∈ d.turns, t.before.length ≤ 1000000 ∧ t.after.length ≤ 1000000

set_option maxRecDepth 100000 in
set_option maxHeartbeats 4000000 in
theorem inverse_ok (d : Delta) (hd : OkD d) : CallsV Try.prog 22 [.agg (kd d)] (.agg (kd (invD d))) := by
  refine CallsR.intro (I0.sound _) mix Try.func22 rfl rfl (by simp [Try.f22]) (by kernel_rfl) (nb := 0) ?_
  unfold Try.f22
  refine Wp.seqI ?_
  obtain ⟨d1, d2, d3, d4⟩ := hd
  refine Wp.regI I0.mono ?_
  refine GL.box I0.mono (by conv => lhs; whnf) rfl (n := 3) rfl rfl ?_
  intro g1
  refine GL.alloc I0.mono (cs := [LV.nils, LV.nils, LV.nils]) rfl rfl ?_
  intro g2
  refine GL.doneF ?_
  refine goOn ?_
  refine Wp.seqI ?_
  refine Wp.regI I0.mono ?_
  refine GL.assign I0.mono (by conv => lhs; whnf) ?_
  refine GL.doneF ?_
  refine goOn ?_
  refine Wp.seqI ?_
  refine Wp.regD ?_
  refine GL.fieldAddr I0.mono (o := 0) rfl rfl rfl rfl (by conv => lhs; whnf) ?_
  refine GL.load I0.mono rfl rfl rfl rfl (by simp) rfl rfl ?_
  refine GL.move I0.mono (by conv => lhs; whnf) ?_
  refine GL.call0 I0.mono rfl (Frz.aggc (by exact Frz.pure rfl) (Frz.aggc (by exact Frz.fn Frz.aggn) (Frz.aggn))) (turns_f _ (by omega) 57 invT (fun t _ => inv1_ok t) (fun t ht => ⟨by have := d4 t ht; show t.after.length ≤ _; omega, by have := d4 t ht; show t.before.length ≤ _; omega⟩)) rfl rfl (fun _ => rfl) ?_
  refine GL.fieldAddr I0.mono (o := 1) rfl rfl rfl rfl (by conv => lhs; whnf) ?_
  refine GL.load I0.mono rfl rfl rfl rfl (by simp) rfl rfl ?_
  refine GL.call0 I0.mono rfl (Frz.aggc (by exact Frz.pure rfl) (Frz.aggn)) (holds_f _ (by omega)) rfl rfl (fun _ => rfl) ?_
  refine GL.fieldAddr I0.mono (o := 2) rfl rfl rfl rfl (by conv => lhs; whnf) ?_
  refine GL.load I0.mono rfl rfl rfl rfl (by simp) rfl rfl ?_
  refine GL.call0 I0.mono rfl (Frz.aggc (by exact Frz.pure rfl) (Frz.aggn)) (holds_f _ (by omega)) rfl rfl (fun _ => rfl) ?_
  refine GL.buildS I0.mono (z := [LV.nils, LV.nils, LV.nils]) (cs := [_, _, _]) (n := 3) rfl rfl rfl (EvS.cons (by conv => lhs; whnf) (EvS.cons (by conv => lhs; whnf) (EvS.cons (by conv => lhs; whnf) (EvS.nil)))) rfl rfl ?_
  refine GL.storeW I0.mono (n := 3) rfl rfl rfl rfl rfl rfl rfl (by conv => lhs; whnf) rfl rfl rfl ?_
  refine GL.doneT (by kernel_rfl) ?_
  refine goOn ?_
  refine Wp.retI ?_
  refine RetX.ret ?_
  refine ⟨_, _, _, _, .cons (.cellA (n := 3) rfl rfl rfl (by simp) rfl rfl rfl (Nat.le_of_ble_eq_true rfl)) .nil, .frz (.pures rfl), List.nodup_nil, by simp, rfl⟩

set_option maxRecDepth 100000 in
set_option maxHeartbeats 4000000 in
theorem tidy_ok (d : Delta) (hd : OkD d) : CallsV Try.prog 23 [.agg (kd d)] (.agg (kd (tidyD d))) := by
  refine CallsR.intro (I0.sound _) mix Try.func23 rfl rfl (by simp [Try.f23]) (by kernel_rfl) (nb := 0) ?_
  unfold Try.f23
  refine Wp.seqI ?_
  obtain ⟨d1, d2, d3, d4⟩ := hd
  refine Wp.regI I0.mono ?_
  refine GL.box I0.mono (by conv => lhs; whnf) rfl (n := 3) rfl rfl ?_
  intro g1
  refine GL.alloc I0.mono (cs := [LV.nils, LV.nils, LV.nils]) rfl rfl ?_
  intro g2
  refine GL.doneF ?_
  refine goOn ?_
  refine Wp.seqI ?_
  refine Wp.regI I0.mono ?_
  refine GL.fieldAddr I0.mono (o := 0) rfl rfl rfl rfl (by conv => lhs; whnf) ?_
  refine GL.load I0.mono rfl rfl rfl rfl (by simp) rfl rfl ?_
  refine GL.callSlo I0.mono (n := d.turns.length) rfl (Frz.aggc (Frz.pure rfl) (Frz.aggc (Frz.fn Frz.aggn) Frz.aggn)) (by have := turns_ok d.turns (by omega) 61 (fun t => t) (fun t _ => id1_ok t) (fun t ht => ⟨by have := d4 t ht; show t.before.length ≤ _; omega, by have := d4 t ht; show t.after.length ≤ _; omega⟩); rwa [List.map_id'] at this) rfl (em_len _ _) ?_
  intro g6
  refine GL.lendT I0.mono (es' := em kt (d.turns.filter fun x => !chgT x)) rfl rfl rfl rfl rfl rfl rfl (by rw [em_len]) rfl (Frz.aggc (Frz.fn Frz.aggn) Frz.aggn) (delT d.turns (by omega) 62 [] rfl chgT (fun t ht => same1_ok t (by have := d4 t ht; unfold Short; omega) (by have := d4 t ht; unfold Short; omega))) (em_len _ _) ?_
  intro y7 g7
  refine GL.assign I0.mono (by conv => lhs; whnf) ?_
  refine GL.doneF ?_
  refine goOn ?_
  refine Wp.seqI ?_
  rcases hF : d.turns.filter (fun x => !chgT x) with _ | ⟨x, r0⟩
  ·skip
   refine Wp.regI I0.mono ?_
   refine GL.move I0.mono (by conv => lhs; whnf) ?_
   refine GL.callFl I0.mono rfl (Frz.aggc (by exact Frz.whole rfl rfl rfl rfl rfl) (Frz.aggc (Frz.fn Frz.aggn) Frz.aggn)) (sortTN 65) (.tup .aggn) rfl rfl ?_
   refine GL.doneF ?_
   refine goOn ?_
   refine Wp.seqI ?_
   refine Wp.regD ?_
   refine GL.move I0.mono (by conv => lhs; whnf) ?_
   refine GL.fieldAddr I0.mono (o := 1) rfl rfl rfl rfl (by conv => lhs; whnf) ?_
   refine GL.load I0.mono rfl rfl rfl rfl (by simp) rfl rfl ?_
   refine GL.call0 I0.mono rfl (Frz.aggc (by exact Frz.pure rfl) (Frz.aggn)) (tidyH_f _ d2) rfl rfl (fun _ => rfl) ?_
   refine GL.fieldAddr I0.mono (o := 2) rfl rfl rfl rfl (by conv => lhs; whnf) ?_
   refine GL.load I0.mono rfl rfl rfl rfl (by simp) rfl rfl ?_
   refine GL.call0 I0.mono rfl (Frz.aggc (by exact Frz.pure rfl) (Frz.aggn)) (tidyH_f _ d3) rfl rfl (fun _ => rfl) ?_
   refine GL.buildS I0.mono (z := [LV.nils, LV.nils, LV.nils]) (cs := [_, _, _]) (n := 3) rfl rfl rfl (EvS.cons (by conv => lhs; whnf) (EvS.cons (by conv => lhs; whnf) (EvS.cons (by conv => lhs; whnf) (EvS.nil)))) rfl rfl ?_
   refine GL.storeW I0.mono (n := 3) rfl rfl rfl rfl rfl rfl rfl (by conv => lhs; whnf) rfl rfl rfl ?_
   refine GL.doneT (by kernel_rfl) ?_
   refine goOn ?_
   refine Wp.retI ?_
   refine RetX.ret ?_
   unfold tidyD tidyT
   rw [hF]
   refine ⟨_, _, _, _, .cons (.cellA (n := 3) rfl rfl rfl (by simp) rfl rfl rfl (Nat.le_of_ble_eq_true rfl)) .nil, .frz (Frz.aggc (by exact Frz.whole rfl rfl rfl rfl rfl) (Frz.aggc (Frz.pure rfl) (Frz.aggc (Frz.pure rfl) Frz.aggn))), List.nodup_nil, by simp, rfl⟩
  ·skip
   refine Wp.regI I0.mono ?_
   refine GL.move I0.mono (by conv => lhs; whnf) ?_
   refine GL.lendS I0.mono (T := []) (es' := em kt (isort Turn.car [] (x :: r0))) rfl rfl rfl rfl rfl rfl rfl (by rw [em_len]) (by simp) rfl (by rw [em_len, em_len, isort_len]; simp) (Frz.aggc (Frz.fn Frz.aggn) Frz.aggn) (by decide) (sortTP Turn.car x r0 (by have := List.length_filter_le (fun x => !chgT x) d.turns; rw [hF] at this; omega) 65 cmpT_ok) ?_
   refine GL.doneF ?_
   refine goOn ?_
   refine Wp.seqI ?_
   refine Wp.regD ?_
   refine GL.move I0.mono (by conv => lhs; whnf) ?_
   refine GL.fieldAddr I0.mono (o := 1) rfl rfl rfl rfl (by conv => lhs; whnf) ?_
   refine GL.load I0.mono rfl rfl rfl rfl (by simp) rfl rfl ?_
   refine GL.call0 I0.mono rfl (Frz.aggc (by exact Frz.pure rfl) (Frz.aggn)) (tidyH_f _ d2) rfl rfl (fun _ => rfl) ?_
   refine GL.fieldAddr I0.mono (o := 2) rfl rfl rfl rfl (by conv => lhs; whnf) ?_
   refine GL.load I0.mono rfl rfl rfl rfl (by simp) rfl rfl ?_
   refine GL.call0 I0.mono rfl (Frz.aggc (by exact Frz.pure rfl) (Frz.aggn)) (tidyH_f _ d3) rfl rfl (fun _ => rfl) ?_
   refine GL.buildS I0.mono (z := [LV.nils, LV.nils, LV.nils]) (cs := [_, _, _]) (n := 3) rfl rfl rfl (EvS.cons (by conv => lhs; whnf) (EvS.cons (by conv => lhs; whnf) (EvS.cons (by conv => lhs; whnf) (EvS.nil)))) rfl rfl ?_
   refine GL.storeW I0.mono (n := 3) rfl rfl rfl rfl rfl rfl rfl (by conv => lhs; whnf) rfl rfl rfl ?_
   refine GL.doneT (by kernel_rfl) ?_
   refine goOn ?_
   refine Wp.retI ?_
   refine RetX.ret ?_
   unfold tidyD tidyT
   rw [hF]
   refine ⟨_, _, _, _, .cons (.cellA (n := 3) rfl rfl rfl (by simp) rfl rfl rfl (Nat.le_of_ble_eq_true rfl)) .nil, .frz (Frz.aggc (by exact Frz.whole rfl rfl rfl rfl (by rw [em_len, isort_len]; simp)) (Frz.aggc (Frz.pure rfl) (Frz.aggc (Frz.pure rfl) Frz.aggn))), List.nodup_nil, by simp, rfl⟩

end Go.Proofs.Ytffnlhjdlhpmjaa
