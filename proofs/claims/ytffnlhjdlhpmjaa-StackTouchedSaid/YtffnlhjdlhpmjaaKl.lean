/- What an edit touches, walked. -/
import Derived.Test.YtffnlhjdlhpmjaaProg
import Derived.Test.YtffnlhjdlhpmjaaKk
import Derived.KernelRfl
set_option linter.all false
namespace Go.Proofs.Ytffnlhjdlhpmjaa
open Go.Proofs Mv
set_option maxRecDepth 100000 in
set_option maxHeartbeats 4000000 in
theorem isrtKN (A : FuncId) : CallsV Try.prog 162 [.sl (em kk []), .int .i64 0, .int .i64 0, .fn A []] (.tup []) := by
  refine CallsR.intro (I0.sound _) mix Try.func162 rfl rfl (by simp [Try.f162]) (by kernel_rfl) (nb := 0) ?_
  unfold Try.f162
  refine Wp.seqI ?_
  refine Wp.regI I0.mono ?_
  refine GL.move I0.mono (by conv => lhs; whnf) ?_
  first | refine GL.addR I0.mono rfl rfl (by first | omega | assumption) ?_ | refine GL.bin I0.mono rfl ?_
  refine GL.assign I0.mono (by conv => lhs; whnf) ?_
  refine GL.doneF ?_
  refine goOn ?_
  refine Wp.blockI ?_
  refine Wp.loopI I0.mono (α := Unit) (fun _ st => (True) ∧ ∃ m0, st = ⟨(updS (updS (fun _ => LV.undef) 2 (.int .i64 0)) 8 (.int .i64 1)), effM m0 []⟩) (fun _ => 0) () ⟨_, (LessS.weak (LessS.upd (LessS.upd (LessS.nil _) rfl) rfl) _), trivial, _, (congrArg (St.mk _) (effM_eq Has.nil).symm)⟩ ?_
  rintro _ _ ⟨-, m0, rfl⟩
  refine Wp.seqI ?_
  refine Wp.seqI ?_
  refine Wp.regI I0.mono ?_
  refine GL.move I0.mono (by conv => lhs; whnf) ?_
  refine GL.move I0.mono (by conv => lhs; whnf) ?_
  refine GL.bin I0.mono rfl ?_
  refine GL.doneF ?_
  refine goOn ?_
  refine Wp.condI rfl (fun h14 => ?_) (fun h14 => ?_)
  ·first | replace h14 := of_decide_eq_true h14 | replace h14 := bne_true h14 | skip
   exact absurd h14 (by decide)
  ·first | replace h14 := of_decide_eq_false h14 | replace h14 := bne_false h14 | skip
   refine Wp.exitI ?_
   refine thenX.exit ?_
   refine thenX.exit ?_
   refine blockX.out ?_
   refine RetX.normal ?_
   refine ⟨_, _, _, _, .nil, .tup .aggn, List.nodup_nil, by simp, rfl⟩

set_option maxRecDepth 100000 in
set_option maxHeartbeats 4000000 in
theorem pdqKN (A : FuncId) (b : Int) : CallsV Try.prog 140 [.sl (em kk []), .int .i64 0, .int .i64 0, .int .i64 b, .fn A []] (.tup []) := by
  refine CallsR.intro (I0.sound _) mix Try.func140 rfl rfl (by simp [Try.f140]) (by kernel_rfl) (nb := 0) ?_
  unfold Try.f140
  refine Wp.seqI ?_
  refine Wp.regI I0.mono ?_
  refine GL.assign I0.mono (by conv => lhs; whnf) ?_
  refine GL.doneF ?_
  refine goOn ?_
  refine Wp.seqI ?_
  refine Wp.regI I0.mono ?_
  refine GL.assign I0.mono (by conv => lhs; whnf) ?_
  refine GL.doneF ?_
  refine goOn ?_
  refine Wp.blockI ?_
  refine Wp.loopI I0.mono (α := Unit) (fun _ st => (True) ∧ ∃ m0, st = ⟨(updS (updS (updS (updS (fun _ => LV.undef) 0 (.sl (em kk []))) 1 (.int .i64 0)) 2 (.int .i64 0)) 4 (.fn A [])), effM m0 []⟩) (fun _ => 0) () ⟨_, (LessS.weak (LessS.upd (LessS.upd (LessS.upd (LessS.upd (LessS.nil _) rfl) rfl) rfl) rfl) _), trivial, _, (congrArg (St.mk _) (effM_eq Has.nil).symm)⟩ ?_
  rintro _ _ ⟨-, m0, rfl⟩
  refine Wp.blockI ?_
  refine Wp.seqI ?_
  refine Wp.regI I0.mono ?_
  refine GL.move I0.mono (by conv => lhs; whnf) ?_
  refine GL.move I0.mono (by conv => lhs; whnf) ?_
  first | refine GL.subR I0.mono rfl rfl (by first | omega | assumption) ?_ | refine GL.bin I0.mono rfl ?_
  refine GL.assign I0.mono (by conv => lhs; whnf) ?_
  refine GL.doneF ?_
  refine goOn ?_
  refine Wp.seqI ?_
  refine Wp.seqI ?_
  refine Wp.regI I0.mono ?_
  refine GL.move I0.mono (by conv => lhs; whnf) ?_
  refine GL.bin I0.mono rfl ?_
  refine GL.doneF ?_
  refine goOn ?_
  refine Wp.condI rfl (fun h25 => ?_) (fun h25 => ?_)
  ·first | replace h25 := of_decide_eq_true h25 | replace h25 := bne_true h25 | skip
   refine Wp.seqI ?_
   refine Wp.regI I0.mono ?_
   refine GL.move I0.mono (by conv => lhs; whnf) ?_
   refine GL.move I0.mono (by conv => lhs; whnf) ?_
   refine GL.move I0.mono (by conv => lhs; whnf) ?_
   refine GL.move I0.mono (by conv => lhs; whnf) ?_
   refine GL.call0 I0.mono rfl (Frz.aggc (by first | exact Frz.pure rfl | exact Frz.pures rfl | exact Frz.nils | exact Frz.fn Frz.aggn | exact Frz.whole rfl rfl rfl rfl (by first | exact em_len _ _ | (rw [em_len]; omega)) | exact (Frz.aggc (by first | exact Frz.pure rfl | exact Frz.nils | exact Frz.whole rfl rfl rfl rfl (by first | exact em_len _ _ | (rw [em_len]; omega))) (Frz.aggc (by first | exact Frz.pure rfl | exact Frz.nils | exact Frz.whole rfl rfl rfl rfl (by first | exact em_len _ _ | (rw [em_len]; omega))) (Frz.aggc (by first | exact Frz.pure rfl | exact Frz.nils | exact Frz.whole rfl rfl rfl rfl (by first | exact em_len _ _ | (rw [em_len]; omega))) Frz.aggn)))) (Frz.aggc (by first | exact Frz.pure rfl | exact Frz.pures rfl | exact Frz.nils | exact Frz.fn Frz.aggn | exact Frz.whole rfl rfl rfl rfl (by first | exact em_len _ _ | (rw [em_len]; omega)) | exact (Frz.aggc (by first | exact Frz.pure rfl | exact Frz.nils | exact Frz.whole rfl rfl rfl rfl (by first | exact em_len _ _ | (rw [em_len]; omega))) (Frz.aggc (by first | exact Frz.pure rfl | exact Frz.nils | exact Frz.whole rfl rfl rfl rfl (by first | exact em_len _ _ | (rw [em_len]; omega))) (Frz.aggc (by first | exact Frz.pure rfl | exact Frz.nils | exact Frz.whole rfl rfl rfl rfl (by first | exact em_len _ _ | (rw [em_len]; omega))) Frz.aggn)))) (Frz.aggc (by first | exact Frz.pure rfl | exact Frz.pures rfl | exact Frz.nils | exact Frz.fn Frz.aggn | exact Frz.whole rfl rfl rfl rfl (by first | exact em_len _ _ | (rw [em_len]; omega)) | exact (Frz.aggc (by first | exact Frz.pure rfl | exact Frz.nils | exact Frz.whole rfl rfl rfl rfl (by first | exact em_len _ _ | (rw [em_len]; omega))) (Frz.aggc (by first | exact Frz.pure rfl | exact Frz.nils | exact Frz.whole rfl rfl rfl rfl (by first | exact em_len _ _ | (rw [em_len]; omega))) (Frz.aggc (by first | exact Frz.pure rfl | exact Frz.nils | exact Frz.whole rfl rfl rfl rfl (by first | exact em_len _ _ | (rw [em_len]; omega))) Frz.aggn)))) (Frz.aggc (by first | exact Frz.pure rfl | exact Frz.pures rfl | exact Frz.nils | exact Frz.fn Frz.aggn | exact Frz.whole rfl rfl rfl rfl (by first | exact em_len _ _ | (rw [em_len]; omega)) | exact (Frz.aggc (by first | exact Frz.pure rfl | exact Frz.nils | exact Frz.whole rfl rfl rfl rfl (by first | exact em_len _ _ | (rw [em_len]; omega))) (Frz.aggc (by first | exact Frz.pure rfl | exact Frz.nils | exact Frz.whole rfl rfl rfl rfl (by first | exact em_len _ _ | (rw [em_len]; omega))) (Frz.aggc (by first | exact Frz.pure rfl | exact Frz.nils | exact Frz.whole rfl rfl rfl rfl (by first | exact em_len _ _ | (rw [em_len]; omega))) Frz.aggn)))) (Frz.aggn))))) (isrtKN A) rfl rfl (fun _ => rfl) ?_
   refine GL.doneF ?_
   refine goOn ?_
   refine Wp.retI ?_
   refine thenX.ret ?_
   refine blockX.ret ?_
   refine thenX.ret ?_
   refine blockX.ret ?_
   refine RetX.ret ?_
   refine ⟨_, _, _, _, .nil, .tup .aggn, List.nodup_nil, by simp, rfl⟩
  ·first | replace h25 := of_decide_eq_false h25 | replace h25 := bne_false h25 | skip
   exact absurd h25 (by decide)

set_option maxRecDepth 100000 in
set_option maxHeartbeats 4000000 in
theorem sortKN (A : FuncId) : CallsV Try.prog 97 [.sl (em kk []), .fn A []] (.tup []) := by
  refine CallsR.intro (I0.sound _) mix Try.func97 rfl rfl (by simp [Try.f97]) (by kernel_rfl) (nb := 0) ?_
  unfold Try.f97
  refine Wp.seqI ?_
  refine Wp.regI I0.mono ?_
  refine GL.move I0.mono (by conv => lhs; whnf) ?_
  first | refine GL.lenF I0.mono rfl rfl (em_len _ _) ?_ | refine GL.lenO I0.mono rfl rfl rfl rfl ?_ | refine GL.lenN I0.mono rfl rfl ?_
  refine GL.assign I0.mono (by conv => lhs; whnf) ?_
  refine GL.doneF ?_
  refine goOn ?_
  obtain ⟨b, hb⟩ := bits_ok 0 (by decide)
  refine Wp.regI I0.mono ?_
  refine GL.move I0.mono (by conv => lhs; whnf) ?_
  refine GL.move I0.mono (by conv => lhs; whnf) ?_
  refine GL.move I0.mono (by conv => lhs; whnf) ?_
  refine GL.conv I0.mono rfl rfl ?_
  refine GL.call0 I0.mono rfl (Frz.aggc (by first | exact Frz.pure rfl | exact Frz.pures rfl | exact Frz.nils | exact Frz.fn Frz.aggn | exact Frz.whole rfl rfl rfl rfl (by first | exact em_len _ _ | (rw [em_len]; omega)) | exact (Frz.aggc (by first | exact Frz.pure rfl | exact Frz.nils | exact Frz.whole rfl rfl rfl rfl (by first | exact em_len _ _ | (rw [em_len]; omega))) (Frz.aggc (by first | exact Frz.pure rfl | exact Frz.nils | exact Frz.whole rfl rfl rfl rfl (by first | exact em_len _ _ | (rw [em_len]; omega))) (Frz.aggc (by first | exact Frz.pure rfl | exact Frz.nils | exact Frz.whole rfl rfl rfl rfl (by first | exact em_len _ _ | (rw [em_len]; omega))) Frz.aggn)))) (Frz.aggn)) (hb) rfl rfl (fun _ => rfl) ?_
  refine GL.move I0.mono (by conv => lhs; whnf) ?_
  refine GL.call0 I0.mono rfl (Frz.aggc (by first | exact Frz.pure rfl | exact Frz.pures rfl | exact Frz.nils | exact Frz.fn Frz.aggn | exact Frz.whole rfl rfl rfl rfl (by first | exact em_len _ _ | (rw [em_len]; omega)) | exact (Frz.aggc (by first | exact Frz.pure rfl | exact Frz.nils | exact Frz.whole rfl rfl rfl rfl (by first | exact em_len _ _ | (rw [em_len]; omega))) (Frz.aggc (by first | exact Frz.pure rfl | exact Frz.nils | exact Frz.whole rfl rfl rfl rfl (by first | exact em_len _ _ | (rw [em_len]; omega))) (Frz.aggc (by first | exact Frz.pure rfl | exact Frz.nils | exact Frz.whole rfl rfl rfl rfl (by first | exact em_len _ _ | (rw [em_len]; omega))) Frz.aggn)))) (Frz.aggc (by first | exact Frz.pure rfl | exact Frz.pures rfl | exact Frz.nils | exact Frz.fn Frz.aggn | exact Frz.whole rfl rfl rfl rfl (by first | exact em_len _ _ | (rw [em_len]; omega)) | exact (Frz.aggc (by first | exact Frz.pure rfl | exact Frz.nils | exact Frz.whole rfl rfl rfl rfl (by first | exact em_len _ _ | (rw [em_len]; omega))) (Frz.aggc (by first | exact Frz.pure rfl | exact Frz.nils | exact Frz.whole rfl rfl rfl rfl (by first | exact em_len _ _ | (rw [em_len]; omega))) (Frz.aggc (by first | exact Frz.pure rfl | exact Frz.nils | exact Frz.whole rfl rfl rfl rfl (by first | exact em_len _ _ | (rw [em_len]; omega))) Frz.aggn)))) (Frz.aggc (by first | exact Frz.pure rfl | exact Frz.pures rfl | exact Frz.nils | exact Frz.fn Frz.aggn | exact Frz.whole rfl rfl rfl rfl (by first | exact em_len _ _ | (rw [em_len]; omega)) | exact (Frz.aggc (by first | exact Frz.pure rfl | exact Frz.nils | exact Frz.whole rfl rfl rfl rfl (by first | exact em_len _ _ | (rw [em_len]; omega))) (Frz.aggc (by first | exact Frz.pure rfl | exact Frz.nils | exact Frz.whole rfl rfl rfl rfl (by first | exact em_len _ _ | (rw [em_len]; omega))) (Frz.aggc (by first | exact Frz.pure rfl | exact Frz.nils | exact Frz.whole rfl rfl rfl rfl (by first | exact em_len _ _ | (rw [em_len]; omega))) Frz.aggn)))) (Frz.aggc (by first | exact Frz.pure rfl | exact Frz.pures rfl | exact Frz.nils | exact Frz.fn Frz.aggn | exact Frz.whole rfl rfl rfl rfl (by first | exact em_len _ _ | (rw [em_len]; omega)) | exact (Frz.aggc (by first | exact Frz.pure rfl | exact Frz.nils | exact Frz.whole rfl rfl rfl rfl (by first | exact em_len _ _ | (rw [em_len]; omega))) (Frz.aggc (by first | exact Frz.pure rfl | exact Frz.nils | exact Frz.whole rfl rfl rfl rfl (by first | exact em_len _ _ | (rw [em_len]; omega))) (Frz.aggc (by first | exact Frz.pure rfl | exact Frz.nils | exact Frz.whole rfl rfl rfl rfl (by first | exact em_len _ _ | (rw [em_len]; omega))) Frz.aggn)))) (Frz.aggc (by first | exact Frz.pure rfl | exact Frz.pures rfl | exact Frz.nils | exact Frz.fn Frz.aggn | exact Frz.whole rfl rfl rfl rfl (by first | exact em_len _ _ | (rw [em_len]; omega)) | exact (Frz.aggc (by first | exact Frz.pure rfl | exact Frz.nils | exact Frz.whole rfl rfl rfl rfl (by first | exact em_len _ _ | (rw [em_len]; omega))) (Frz.aggc (by first | exact Frz.pure rfl | exact Frz.nils | exact Frz.whole rfl rfl rfl rfl (by first | exact em_len _ _ | (rw [em_len]; omega))) (Frz.aggc (by first | exact Frz.pure rfl | exact Frz.nils | exact Frz.whole rfl rfl rfl rfl (by first | exact em_len _ _ | (rw [em_len]; omega))) Frz.aggn)))) (Frz.aggn)))))) (pdqKN A b) rfl rfl (fun _ => rfl) ?_
  refine GL.doneF ?_
  refine RetX.normal ?_
  refine ⟨_, _, _, _, .nil, .tup .aggn, List.nodup_nil, by simp, rfl⟩

def keysL (d : Delta) : List SKey := (tidyD d).turns.map (fun t => ⟨1, t.car⟩) ++ (tidyD d).locks.map (fun h => ⟨2, h.n⟩) ++ (movedL (tidyD d)).map (fun s => ⟨2, s⟩) ++ (tidyD d).ices.map (fun h => ⟨3, h.n⟩)
def touchedL (d : Delta) : List SKey := compactF (isortC cmpK [] (keysL d))

set_option maxRecDepth 100000 in
set_option maxHeartbeats 4000000 in
theorem touched_walk (d T : Delta) (ht : CallsV Try.prog 23 [.agg (kd d)] (.agg (kd T))) (hm : CallsV Try.prog 27 [.agg (kd T)] (.sl (em ni (movedL T)))) (L : List SKey) (hL : L = T.turns.map (fun t => ⟨1, t.car⟩) ++ T.locks.map (fun h => ⟨2, h.n⟩) ++ (movedL T).map (fun s => ⟨2, s⟩) ++ T.ices.map (fun h => ⟨3, h.n⟩)) (hl : L.length ≤ 12) : CallsV Try.prog 48 [.agg (kd d)] (.slo 2 (em kk (compactF (isortC cmpK [] L)))) := by
  refine CallsR.intro (I0.sound _) mix Try.func48 rfl rfl (by simp [Try.f48]) (by kernel_rfl) (nb := 0) ?_
  unfold Try.f48
  refine Wp.seqI ?_
  have hlen := congrArg List.length hL
  simp only [List.length_append, List.length_map] at hlen
  refine Wp.regI I0.mono ?_
  refine GL.box I0.mono (by conv => lhs; whnf) rfl (n := 3) rfl rfl ?_
  intro g1
  refine GL.assign I0.mono (by conv => lhs; whnf) ?_
  refine GL.doneF ?_
  refine goOn ?_
  refine Wp.seqI ?_
  refine Wp.regI I0.mono ?_
  first | refine GL.loadW I0.mono (n := 3) rfl rfl rfl rfl (by simp) rfl rfl rfl ?_ | refine GL.loadFW I0.mono (n := 3) rfl rfl (em_get (by omega)) rfl rfl ?_ | refine GL.loadA I0.mono (n := 3) rfl rfl rfl rfl (by simp) rfl rfl (Nat.le_of_ble_eq_true rfl) (by first | (conv => lhs; simp only [List.take_succ_cons, List.take_zero, List.drop_succ_cons, List.drop_zero, List.nil_append, List.cons_append, List.drop_nil, List.append_nil, List.take_nil, List.set_cons_zero, List.set_cons_succ, Nat.zero_add, ni, nr, nc, ns, np, ic, nt, ei, cellsL]) | rfl) ?_ | refine GL.loadFA I0.mono (n := 3) rfl rfl (em_get (by omega)) rfl (Nat.le_of_ble_eq_true rfl) (by first | (conv => lhs; simp only [List.take_succ_cons, List.take_zero, List.drop_succ_cons, List.drop_zero, List.nil_append, List.cons_append, List.drop_nil, List.append_nil, List.take_nil, List.set_cons_zero, List.set_cons_succ, Nat.zero_add, ni, nr, nc, ns, np, ic, nt, ei, cellsL]) | rfl) ?_
  refine GL.call0 I0.mono rfl (Frz.aggc (by first | exact Frz.pure rfl | exact Frz.pures rfl | exact Frz.nils | exact Frz.fn Frz.aggn | exact Frz.whole rfl rfl rfl rfl (by first | exact em_len _ _ | (rw [em_len]; omega)) | exact (Frz.aggc (by first | exact Frz.pure rfl | exact Frz.nils | exact Frz.whole rfl rfl rfl rfl (by first | exact em_len _ _ | (rw [em_len]; omega))) (Frz.aggc (by first | exact Frz.pure rfl | exact Frz.nils | exact Frz.whole rfl rfl rfl rfl (by first | exact em_len _ _ | (rw [em_len]; omega))) (Frz.aggc (by first | exact Frz.pure rfl | exact Frz.nils | exact Frz.whole rfl rfl rfl rfl (by first | exact em_len _ _ | (rw [em_len]; omega))) Frz.aggn)))) (Frz.aggn)) (ht) rfl rfl (fun _ => rfl) ?_
  first | refine GL.storeW I0.mono (n := 3) rfl rfl rfl rfl rfl rfl rfl (by conv => lhs; whnf) rfl rfl rfl ?_ | refine GL.store I0.mono (n := 3) rfl rfl rfl rfl rfl rfl rfl rfl rfl rfl (Nat.le_of_ble_eq_true rfl) (by first | (conv => lhs; simp only [List.take_succ_cons, List.take_zero, List.drop_succ_cons, List.drop_zero, List.nil_append, List.cons_append, List.drop_nil, List.append_nil, List.take_nil, List.set_cons_zero, List.set_cons_succ, Nat.zero_add, ni, nr, nc, ns, np, ic, nt, ei, cellsL]) | rfl) (by first | (conv => lhs; simp only [List.take_succ_cons, List.take_zero, List.drop_succ_cons, List.drop_zero, List.nil_append, List.cons_append, List.drop_nil, List.append_nil, List.take_nil, List.set_cons_zero, List.set_cons_succ, Nat.zero_add, ni, nr, nc, ns, np, ic, nt, ei, cellsL]) | rfl) ?_
  refine GL.doneF ?_
  refine goOn ?_
  refine Wp.seqI ?_
  refine Wp.regI I0.mono ?_
  refine GL.assign I0.mono (by conv => lhs; whnf) ?_
  refine GL.doneF ?_
  refine goWeak (Weak.nilSlot (j := 3) 700001 2 rfl) ?_
  refine Wp.seqI ?_
  refine Wp.seqI ?_
  refine Wp.regI I0.mono ?_
  first | refine GL.fieldAddr I0.mono (o := 0) rfl rfl rfl rfl (by conv => lhs; whnf) ?_ | refine GL.fieldAddrF I0.mono (o := 0) rfl rfl (by conv => lhs; whnf) ?_
  first | refine GL.load I0.mono rfl rfl rfl rfl (by simp) rfl rfl ?_ | refine GL.loadF I0.mono rfl rfl (em_get (by omega)) rfl ?_
  first | refine GL.lenF I0.mono rfl rfl (em_len _ _) ?_ | refine GL.lenO I0.mono rfl rfl rfl rfl ?_ | refine GL.lenN I0.mono rfl rfl ?_
  refine GL.move I0.mono (by conv => lhs; whnf) ?_
  refine GL.doneF ?_
  refine goOn ?_
  refine Wp.blockI ?_
  refine Wp.loopI I0.mono (α := Nat × Nat × List SKey) (fun ⟨i, g, r⟩ st => (i ≤ (T.turns).length ∧ r = [] ++ ((T.turns).take i).map (fun t => (⟨1, t.car⟩ : SKey))) ∧ ∃ m0, st = ⟨(updS (updS (updS (updS (updS (fun _ => LV.undef) 1 (.ref 64 g1 0 0)) 3 (.own 700001 g 0 r.length none)) 15 (.sl (em kt T.turns))) 16 (.int .i64 ((T.turns).length : Int))) 17 (.int .i64 (i : Int))), effM m0 [(64, ⟨g1, false, .var, 3, [kd T]⟩), (700001, ⟨g, false, .slc, 2, em kk r⟩)]⟩) (fun ⟨i, g, r⟩ => (T.turns).length - i) ⟨0, _, []⟩ ⟨_, (LessS.weak (LessS.upd (LessS.upd (LessS.upd (LessS.upd (LessS.upd (LessS.nil _) rfl) rfl) rfl) rfl) rfl) _), ⟨Nat.zero_le _, rfl⟩, _, (congrArg (St.mk _) (effM_eq (Has.cons rfl (Has.cons rfl Has.nil))).symm)⟩ ?_
  rintro ⟨i, g, r⟩ _ ⟨⟨hi, hr⟩, m0, rfl⟩
  have hrl := congrArg List.length hr
  simp only [List.length_append, List.length_map, List.length_take, List.length_nil] at hrl
  refine Wp.seqI ?_
  refine Wp.regI I0.mono ?_
  refine GL.bin I0.mono rfl ?_
  refine GL.doneF ?_
  refine goOn ?_
  refine Wp.seqI ?_
  refine Wp.condI rfl (fun h18 => ?_) (fun h18 => ?_)
  ·first | replace h18 := of_decide_eq_true h18 | replace h18 := bne_true h18 | skip
   refine Wp.skipI ?_
   refine goOn ?_
   refine Wp.seqI ?_
   refine Wp.blockI ?_
   refine Wp.seqI ?_
   refine Wp.regI I0.mono ?_
   first | refine GL.indexAddrF I0.mono (sz := 3) rfl rfl rfl rfl (by omega) (by first | omega | (rw [em_len]; omega)) (by intro e he; obtain ⟨a, -, rfl⟩ := List.mem_map.1 he; rfl) (by first | with_reducible exact Int.toNat_natCast _ | rfl) ?_ | refine GL.indexAddr I0.mono (sz := 3) rfl rfl rfl rfl rfl rfl rfl rfl (by omega) (by first | omega | (rw [em_len]; omega)) (by first | (conv => lhs; simp only [Nat.zero_add, Int.toNat_natCast]) | rfl) ?_
   first | refine GL.loadW I0.mono (n := 3) rfl rfl rfl rfl (by simp) rfl rfl rfl ?_ | refine GL.loadFW I0.mono (n := 3) rfl rfl (em_get (by omega)) rfl rfl ?_ | refine GL.loadA I0.mono (n := 3) rfl rfl rfl rfl (by simp) rfl rfl (Nat.le_of_ble_eq_true rfl) (by first | (conv => lhs; simp only [List.take_succ_cons, List.take_zero, List.drop_succ_cons, List.drop_zero, List.nil_append, List.cons_append, List.drop_nil, List.append_nil, List.take_nil, List.set_cons_zero, List.set_cons_succ, Nat.zero_add, ni, nr, nc, ns, np, ic, nt, ei, cellsL]) | rfl) ?_ | refine GL.loadFA I0.mono (n := 3) rfl rfl (em_get (by omega)) rfl (Nat.le_of_ble_eq_true rfl) (by first | (conv => lhs; simp only [List.take_succ_cons, List.take_zero, List.drop_succ_cons, List.drop_zero, List.nil_append, List.cons_append, List.drop_nil, List.append_nil, List.take_nil, List.set_cons_zero, List.set_cons_succ, Nat.zero_add, ni, nr, nc, ns, np, ic, nt, ei, cellsL]) | rfl) ?_
   refine GL.alloc I0.mono (cs := [LV.int .i64 0, LV.nils, LV.nils]) rfl rfl ?_
   intro g5
   first | refine GL.storeW I0.mono (n := 3) rfl rfl rfl rfl rfl rfl rfl (by conv => lhs; whnf) rfl rfl rfl ?_ | refine GL.store I0.mono (n := 3) rfl rfl rfl rfl rfl rfl rfl rfl rfl rfl (Nat.le_of_ble_eq_true rfl) (by first | (conv => lhs; simp only [List.take_succ_cons, List.take_zero, List.drop_succ_cons, List.drop_zero, List.nil_append, List.cons_append, List.drop_nil, List.append_nil, List.take_nil, List.set_cons_zero, List.set_cons_succ, Nat.zero_add, ni, nr, nc, ns, np, ic, nt, ei, cellsL]) | rfl) (by first | (conv => lhs; simp only [List.take_succ_cons, List.take_zero, List.drop_succ_cons, List.drop_zero, List.nil_append, List.cons_append, List.drop_nil, List.append_nil, List.take_nil, List.set_cons_zero, List.set_cons_succ, Nat.zero_add, ni, nr, nc, ns, np, ic, nt, ei, cellsL]) | rfl) ?_
   refine GL.doneF ?_
   refine goOn ?_
   refine Wp.regI I0.mono ?_
   refine GL.move I0.mono (by conv => lhs; whnf) ?_
   first | refine GL.fieldAddr I0.mono (o := 0) rfl rfl rfl rfl (by conv => lhs; whnf) ?_ | refine GL.fieldAddrF I0.mono (o := 0) rfl rfl (by conv => lhs; whnf) ?_
   first | refine GL.load I0.mono rfl rfl rfl rfl (by simp) rfl rfl ?_ | refine GL.loadF I0.mono rfl rfl (em_get (by omega)) rfl ?_
   refine GL.buildS I0.mono (z := [LV.int .i64 0, LV.int .i64 0]) (cs := [_, _]) (n := 2) rfl rfl rfl (EvS.cons (by conv => lhs; whnf) (EvS.cons (by conv => lhs; whnf) (EvS.nil))) rfl rfl ?_
   refine GL.buildSlice0 I0.mono (sz := 2) (z := [LV.int .i64 0, LV.int .i64 0]) (es := em kk [⟨1, (T.turns.getD i default).car⟩]) rfl rfl rfl rfl (by decide) (by decide) (by decide) (FrzP.cons (S := []) (T := []) (Frz.pures rfl) rfl (by decide) rfl (FrzP.nil)) rfl ?_
   intro g25
   refine GL.append1 I0.mono (f := kk) (v := ⟨1, (T.turns.getD i default).car⟩) (sz := 2) (z := [.int .i64 0, .int .i64 0]) rfl rfl rfl rfl rfl (by decide) (Nat.le_of_ble_eq_true rfl) rfl rfl rfl rfl rfl rfl rfl rfl rfl rfl rfl rfl rfl rfl rfl rfl (by omega) ?_
   refine GL.assign I0.mono (by conv => lhs; whnf) ?_
   refine GL.doneF ?_
   refine blockX.normal ?_
   refine goOn ?_
   refine Wp.regI I0.mono ?_
   first | refine GL.addR I0.mono rfl rfl (by first | omega | assumption) ?_ | refine GL.bin I0.mono rfl ?_
   refine GL.move I0.mono (by conv => lhs; whnf) ?_
   refine GL.doneF ?_
   refine ⟨⟨i + 1, _, _⟩, (by dsimp only; omega), _, (LessS.weak (LessS.upd (LessS.upd (LessS.upd (LessS.upd (LessS.upd (LessS.nil _) rfl) (by rw [List.length_append]; rfl)) rfl) rfl) rfl) _), ⟨by omega, by rw [hr, take_snocG (by omega), List.map_append, List.append_assoc]; rfl⟩, _, (congrArg (St.mk _) (effM_eq (Has.cons rfl (Has.cons rfl Has.nil))).symm)⟩
  ·first | replace h18 := of_decide_eq_false h18 | replace h18 := bne_false h18 | skip
   have e0 : r = (T.turns.map (fun t => (⟨1, t.car⟩ : SKey))) ++ [] := by rw [hr, List.take_of_length_le (by omega)]; simp
   refine Wp.exitI ?_
   refine thenX.exit ?_
   refine thenX.exit ?_
   refine blockX.out ?_
   refine goOn ?_
   refine Wp.seqI ?_
   refine Wp.seqI ?_
   refine Wp.regI I0.mono ?_
   first | refine GL.fieldAddr I0.mono (o := 1) rfl rfl rfl rfl (by conv => lhs; whnf) ?_ | refine GL.fieldAddrF I0.mono (o := 1) rfl rfl (by conv => lhs; whnf) ?_
   first | refine GL.load I0.mono rfl rfl rfl rfl (by simp) rfl rfl ?_ | refine GL.loadF I0.mono rfl rfl (em_get (by omega)) rfl ?_
   first | refine GL.lenF I0.mono rfl rfl (em_len _ _) ?_ | refine GL.lenO I0.mono rfl rfl rfl rfl ?_ | refine GL.lenN I0.mono rfl rfl ?_
   refine GL.move I0.mono (by conv => lhs; whnf) ?_
   refine GL.doneF ?_
   refine goOn ?_
   refine Wp.blockI ?_
   refine Wp.loopI I0.mono (α := Nat × Nat × List SKey) (fun ⟨i, g, r⟩ st => (i ≤ (T.locks).length ∧ r = (T.turns.map (fun t => (⟨1, t.car⟩ : SKey))) ++ ((T.locks).take i).map (fun h => (⟨2, h.n⟩ : SKey))) ∧ ∃ m0, st = ⟨(updS (updS (updS (updS (updS (fun _ => LV.undef) 1 (.ref 64 g1 0 0)) 3 (.own 700001 g 0 r.length none)) 29 (.sl (em kh T.locks))) 30 (.int .i64 ((T.locks).length : Int))) 31 (.int .i64 (i : Int))), effM m0 [(64, ⟨g1, false, .var, 3, [kd T]⟩), (700001, ⟨g, false, .slc, 2, em kk r⟩)]⟩) (fun ⟨i, g, r⟩ => (T.locks).length - i) ⟨0, _, _⟩ ⟨_, (LessS.weak (LessS.upd (LessS.upd (LessS.upd (LessS.upd (LessS.upd (LessS.nil _) rfl) rfl) rfl) rfl) rfl) _), ⟨Nat.zero_le _, e0⟩, _, (congrArg (St.mk _) (effM_eq (Has.cons rfl (Has.cons rfl Has.nil))).symm)⟩ ?_
   rintro ⟨i, g, r⟩ _ ⟨⟨hi, hr⟩, m0, rfl⟩
   have hrl := congrArg List.length hr
   simp only [List.length_append, List.length_map, List.length_take, List.length_nil] at hrl
   refine Wp.seqI ?_
   refine Wp.regI I0.mono ?_
   refine GL.bin I0.mono rfl ?_
   refine GL.doneF ?_
   refine goOn ?_
   refine Wp.seqI ?_
   refine Wp.condI rfl (fun h32 => ?_) (fun h32 => ?_)
   ·first | replace h32 := of_decide_eq_true h32 | replace h32 := bne_true h32 | skip
    refine Wp.skipI ?_
    refine goOn ?_
    refine Wp.seqI ?_
    refine Wp.blockI ?_
    refine Wp.seqI ?_
    refine Wp.regI I0.mono ?_
    first | refine GL.indexAddrF I0.mono (sz := 3) rfl rfl rfl rfl (by omega) (by first | omega | (rw [em_len]; omega)) (by intro e he; obtain ⟨a, -, rfl⟩ := List.mem_map.1 he; rfl) (by first | with_reducible exact Int.toNat_natCast _ | rfl) ?_ | refine GL.indexAddr I0.mono (sz := 3) rfl rfl rfl rfl rfl rfl rfl rfl (by omega) (by first | omega | (rw [em_len]; omega)) (by first | (conv => lhs; simp only [Nat.zero_add, Int.toNat_natCast]) | rfl) ?_
    first | refine GL.loadW I0.mono (n := 3) rfl rfl rfl rfl (by simp) rfl rfl rfl ?_ | refine GL.loadFW I0.mono (n := 3) rfl rfl (em_get (by omega)) rfl rfl ?_ | refine GL.loadA I0.mono (n := 3) rfl rfl rfl rfl (by simp) rfl rfl (Nat.le_of_ble_eq_true rfl) (by first | (conv => lhs; simp only [List.take_succ_cons, List.take_zero, List.drop_succ_cons, List.drop_zero, List.nil_append, List.cons_append, List.drop_nil, List.append_nil, List.take_nil, List.set_cons_zero, List.set_cons_succ, Nat.zero_add, ni, nr, nc, ns, np, ic, nt, ei, cellsL]) | rfl) ?_ | refine GL.loadFA I0.mono (n := 3) rfl rfl (em_get (by omega)) rfl (Nat.le_of_ble_eq_true rfl) (by first | (conv => lhs; simp only [List.take_succ_cons, List.take_zero, List.drop_succ_cons, List.drop_zero, List.nil_append, List.cons_append, List.drop_nil, List.append_nil, List.take_nil, List.set_cons_zero, List.set_cons_succ, Nat.zero_add, ni, nr, nc, ns, np, ic, nt, ei, cellsL]) | rfl) ?_
    refine GL.alloc I0.mono (cs := [LV.int .i64 0, LV.int .i64 0, LV.int .i64 0]) rfl rfl ?_
    intro g7
    first | refine GL.storeW I0.mono (n := 3) rfl rfl rfl rfl rfl rfl rfl (by conv => lhs; whnf) rfl rfl rfl ?_ | refine GL.store I0.mono (n := 3) rfl rfl rfl rfl rfl rfl rfl rfl rfl rfl (Nat.le_of_ble_eq_true rfl) (by first | (conv => lhs; simp only [List.take_succ_cons, List.take_zero, List.drop_succ_cons, List.drop_zero, List.nil_append, List.cons_append, List.drop_nil, List.append_nil, List.take_nil, List.set_cons_zero, List.set_cons_succ, Nat.zero_add, ni, nr, nc, ns, np, ic, nt, ei, cellsL]) | rfl) (by first | (conv => lhs; simp only [List.take_succ_cons, List.take_zero, List.drop_succ_cons, List.drop_zero, List.nil_append, List.cons_append, List.drop_nil, List.append_nil, List.take_nil, List.set_cons_zero, List.set_cons_succ, Nat.zero_add, ni, nr, nc, ns, np, ic, nt, ei, cellsL]) | rfl) ?_
    refine GL.doneF ?_
    refine goOn ?_
    refine Wp.regI I0.mono ?_
    refine GL.move I0.mono (by conv => lhs; whnf) ?_
    first | refine GL.fieldAddr I0.mono (o := 0) rfl rfl rfl rfl (by conv => lhs; whnf) ?_ | refine GL.fieldAddrF I0.mono (o := 0) rfl rfl (by conv => lhs; whnf) ?_
    first | refine GL.load I0.mono rfl rfl rfl rfl (by simp) rfl rfl ?_ | refine GL.loadF I0.mono rfl rfl (em_get (by omega)) rfl ?_
    refine GL.buildS I0.mono (z := [LV.int .i64 0, LV.int .i64 0]) (cs := [_, _]) (n := 2) rfl rfl rfl (EvS.cons (by conv => lhs; whnf) (EvS.cons (by conv => lhs; whnf) (EvS.nil))) rfl rfl ?_
    refine GL.buildSlice0 I0.mono (sz := 2) (z := [LV.int .i64 0, LV.int .i64 0]) (es := em kk [⟨2, (T.locks.getD i default).n⟩]) rfl rfl rfl rfl (by decide) (by decide) (by decide) (FrzP.cons (S := []) (T := []) (Frz.pures rfl) rfl (by decide) rfl (FrzP.nil)) rfl ?_
    intro g39
    refine GL.append1 I0.mono (f := kk) (v := ⟨2, (T.locks.getD i default).n⟩) (sz := 2) (z := [.int .i64 0, .int .i64 0]) rfl rfl rfl rfl rfl (by decide) (Nat.le_of_ble_eq_true rfl) rfl rfl rfl rfl rfl rfl rfl rfl rfl rfl rfl rfl rfl rfl rfl rfl (by omega) ?_
    refine GL.assign I0.mono (by conv => lhs; whnf) ?_
    refine GL.doneF ?_
    refine blockX.normal ?_
    refine goOn ?_
    refine Wp.regI I0.mono ?_
    first | refine GL.addR I0.mono rfl rfl (by first | omega | assumption) ?_ | refine GL.bin I0.mono rfl ?_
    refine GL.move I0.mono (by conv => lhs; whnf) ?_
    refine GL.doneF ?_
    refine ⟨⟨i + 1, _, _⟩, (by dsimp only; omega), _, (LessS.weak (LessS.upd (LessS.upd (LessS.upd (LessS.upd (LessS.upd (LessS.nil _) rfl) (by rw [List.length_append]; rfl)) rfl) rfl) rfl) _), ⟨by omega, by rw [hr, take_snocG (by omega), List.map_append, List.append_assoc]; rfl⟩, _, (congrArg (St.mk _) (effM_eq (Has.cons rfl (Has.cons rfl Has.nil))).symm)⟩
   ·first | replace h32 := of_decide_eq_false h32 | replace h32 := bne_false h32 | skip
    have e2 : r = ((T.turns.map (fun t => (⟨1, t.car⟩ : SKey))) ++ (T.locks.map (fun h => (⟨2, h.n⟩ : SKey)))) ++ [] := by rw [hr, List.take_of_length_le (by omega)]; simp
    refine Wp.exitI ?_
    refine thenX.exit ?_
    refine thenX.exit ?_
    refine blockX.out ?_
    refine goOn ?_
    refine Wp.seqI ?_
    refine Wp.seqI ?_
    refine Wp.regI I0.mono ?_
    first | refine GL.loadW I0.mono (n := 3) rfl rfl rfl rfl (by simp) rfl rfl rfl ?_ | refine GL.loadFW I0.mono (n := 3) rfl rfl (em_get (by omega)) rfl rfl ?_ | refine GL.loadA I0.mono (n := 3) rfl rfl rfl rfl (by simp) rfl rfl (Nat.le_of_ble_eq_true rfl) (by first | (conv => lhs; simp only [List.take_succ_cons, List.take_zero, List.drop_succ_cons, List.drop_zero, List.nil_append, List.cons_append, List.drop_nil, List.append_nil, List.take_nil, List.set_cons_zero, List.set_cons_succ, Nat.zero_add, ni, nr, nc, ns, np, ic, nt, ei, cellsL]) | rfl) ?_ | refine GL.loadFA I0.mono (n := 3) rfl rfl (em_get (by omega)) rfl (Nat.le_of_ble_eq_true rfl) (by first | (conv => lhs; simp only [List.take_succ_cons, List.take_zero, List.drop_succ_cons, List.drop_zero, List.nil_append, List.cons_append, List.drop_nil, List.append_nil, List.take_nil, List.set_cons_zero, List.set_cons_succ, Nat.zero_add, ni, nr, nc, ns, np, ic, nt, ei, cellsL]) | rfl) ?_
    refine GL.call0 I0.mono rfl (Frz.aggc (by first | exact Frz.pure rfl | exact Frz.pures rfl | exact Frz.nils | exact Frz.fn Frz.aggn | exact Frz.whole rfl rfl rfl rfl (by first | exact em_len _ _ | (rw [em_len]; omega)) | exact (Frz.aggc (by first | exact Frz.pure rfl | exact Frz.nils | exact Frz.whole rfl rfl rfl rfl (by first | exact em_len _ _ | (rw [em_len]; omega))) (Frz.aggc (by first | exact Frz.pure rfl | exact Frz.nils | exact Frz.whole rfl rfl rfl rfl (by first | exact em_len _ _ | (rw [em_len]; omega))) (Frz.aggc (by first | exact Frz.pure rfl | exact Frz.nils | exact Frz.whole rfl rfl rfl rfl (by first | exact em_len _ _ | (rw [em_len]; omega))) Frz.aggn)))) (Frz.aggn)) (hm) rfl rfl (fun _ => rfl) ?_
    first | refine GL.lenF I0.mono rfl rfl (em_len _ _) ?_ | refine GL.lenO I0.mono rfl rfl rfl rfl ?_ | refine GL.lenN I0.mono rfl rfl ?_
    refine GL.move I0.mono (by conv => lhs; whnf) ?_
    refine GL.doneF ?_
    refine goOn ?_
    refine Wp.blockI ?_
    refine Wp.loopI I0.mono (α := Nat × Nat × List SKey) (fun ⟨i, g, r⟩ st => (i ≤ ((movedL T)).length ∧ r = ((T.turns.map (fun t => (⟨1, t.car⟩ : SKey))) ++ (T.locks.map (fun h => (⟨2, h.n⟩ : SKey)))) ++ (((movedL T)).take i).map (fun s => (⟨2, s⟩ : SKey))) ∧ ∃ m0, st = ⟨(updS (updS (updS (updS (updS (fun _ => LV.undef) 1 (.ref 64 g1 0 0)) 3 (.own 700001 g 0 r.length none)) 43 (.sl (em ni (movedL T)))) 44 (.int .i64 (((movedL T)).length : Int))) 45 (.int .i64 (i : Int))), effM m0 [(64, ⟨g1, false, .var, 3, [kd T]⟩), (700001, ⟨g, false, .slc, 2, em kk r⟩)]⟩) (fun ⟨i, g, r⟩ => ((movedL T)).length - i) ⟨0, _, _⟩ ⟨_, (LessS.weak (LessS.upd (LessS.upd (LessS.upd (LessS.upd (LessS.upd (LessS.nil _) rfl) rfl) rfl) rfl) rfl) _), ⟨Nat.zero_le _, e2⟩, _, (congrArg (St.mk _) (effM_eq (Has.cons rfl (Has.cons rfl Has.nil))).symm)⟩ ?_
    rintro ⟨i, g, r⟩ _ ⟨⟨hi, hr⟩, m0, rfl⟩
    have hrl := congrArg List.length hr
    simp only [List.length_append, List.length_map, List.length_take, List.length_nil] at hrl
    refine Wp.seqI ?_
    refine Wp.regI I0.mono ?_
    refine GL.bin I0.mono rfl ?_
    refine GL.doneF ?_
    refine goOn ?_
    refine Wp.seqI ?_
    refine Wp.condI rfl (fun h46 => ?_) (fun h46 => ?_)
    ·first | replace h46 := of_decide_eq_true h46 | replace h46 := bne_true h46 | skip
     refine Wp.skipI ?_
     refine goOn ?_
     refine Wp.seqI ?_
     refine Wp.blockI ?_
     refine Wp.seqI ?_
     refine Wp.regI I0.mono ?_
     first | refine GL.indexAddrF I0.mono (sz := 1) rfl rfl rfl rfl (by omega) (by first | omega | (rw [em_len]; omega)) (by intro e he; obtain ⟨a, -, rfl⟩ := List.mem_map.1 he; rfl) (by first | with_reducible exact Int.toNat_natCast _ | rfl) ?_ | refine GL.indexAddr I0.mono (sz := 1) rfl rfl rfl rfl rfl rfl rfl rfl (by omega) (by first | omega | (rw [em_len]; omega)) (by first | (conv => lhs; simp only [Nat.zero_add, Int.toNat_natCast]) | rfl) ?_
     first | refine GL.load I0.mono rfl rfl rfl rfl (by simp) rfl rfl ?_ | refine GL.loadF I0.mono rfl rfl (em_get (by omega)) rfl ?_
     refine GL.assign I0.mono (by conv => lhs; whnf) ?_
     refine GL.doneF ?_
     refine goOn ?_
     refine Wp.regI I0.mono ?_
     refine GL.move I0.mono (by conv => lhs; whnf) ?_
     refine GL.move I0.mono (by conv => lhs; whnf) ?_
     refine GL.buildS I0.mono (z := [LV.int .i64 0, LV.int .i64 0]) (cs := [_, _]) (n := 2) rfl rfl rfl (EvS.cons (by conv => lhs; whnf) (EvS.cons (by conv => lhs; whnf) (EvS.nil))) rfl rfl ?_
     refine GL.buildSlice0 I0.mono (sz := 2) (z := [LV.int .i64 0, LV.int .i64 0]) (es := em kk [⟨2, (movedL T).getD i default⟩]) rfl rfl rfl rfl (by decide) (by decide) (by decide) (FrzP.cons (S := []) (T := []) (Frz.pures rfl) rfl (by decide) rfl (FrzP.nil)) rfl ?_
     intro g52
     refine GL.append1 I0.mono (f := kk) (v := ⟨2, (movedL T).getD i default⟩) (sz := 2) (z := [.int .i64 0, .int .i64 0]) rfl rfl rfl rfl rfl (by decide) (Nat.le_of_ble_eq_true rfl) rfl rfl rfl rfl rfl rfl rfl rfl rfl rfl rfl rfl rfl rfl rfl rfl (by omega) ?_
     refine GL.assign I0.mono (by conv => lhs; whnf) ?_
     refine GL.doneF ?_
     refine blockX.normal ?_
     refine goOn ?_
     refine Wp.regI I0.mono ?_
     first | refine GL.addR I0.mono rfl rfl (by first | omega | assumption) ?_ | refine GL.bin I0.mono rfl ?_
     refine GL.move I0.mono (by conv => lhs; whnf) ?_
     refine GL.doneF ?_
     refine ⟨⟨i + 1, _, _⟩, (by dsimp only; omega), _, (LessS.weak (LessS.upd (LessS.upd (LessS.upd (LessS.upd (LessS.upd (LessS.nil _) rfl) (by rw [List.length_append]; rfl)) rfl) rfl) rfl) _), ⟨by omega, by rw [hr, take_snocG (by omega), List.map_append, List.append_assoc]; rfl⟩, _, (congrArg (St.mk _) (effM_eq (Has.cons rfl (Has.cons rfl Has.nil))).symm)⟩
    ·first | replace h46 := of_decide_eq_false h46 | replace h46 := bne_false h46 | skip
     have e4 : r = ((T.turns.map (fun t => (⟨1, t.car⟩ : SKey))) ++ (T.locks.map (fun h => (⟨2, h.n⟩ : SKey))) ++ ((movedL T).map (fun s => (⟨2, s⟩ : SKey)))) ++ [] := by rw [hr, List.take_of_length_le (by omega)]; simp
     refine Wp.exitI ?_
     refine thenX.exit ?_
     refine thenX.exit ?_
     refine blockX.out ?_
     refine goOn ?_
     refine Wp.seqI ?_
     refine Wp.seqI ?_
     refine Wp.regI I0.mono ?_
     first | refine GL.fieldAddr I0.mono (o := 2) rfl rfl rfl rfl (by conv => lhs; whnf) ?_ | refine GL.fieldAddrF I0.mono (o := 2) rfl rfl (by conv => lhs; whnf) ?_
     first | refine GL.load I0.mono rfl rfl rfl rfl (by simp) rfl rfl ?_ | refine GL.loadF I0.mono rfl rfl (em_get (by omega)) rfl ?_
     first | refine GL.lenF I0.mono rfl rfl (em_len _ _) ?_ | refine GL.lenO I0.mono rfl rfl rfl rfl ?_ | refine GL.lenN I0.mono rfl rfl ?_
     refine GL.move I0.mono (by conv => lhs; whnf) ?_
     refine GL.doneF ?_
     refine goOn ?_
     refine Wp.blockI ?_
     refine Wp.loopI I0.mono (α := Nat × Nat × List SKey) (fun ⟨i, g, r⟩ st => (i ≤ (T.ices).length ∧ r = ((T.turns.map (fun t => (⟨1, t.car⟩ : SKey))) ++ (T.locks.map (fun h => (⟨2, h.n⟩ : SKey))) ++ ((movedL T).map (fun s => (⟨2, s⟩ : SKey)))) ++ ((T.ices).take i).map (fun h => (⟨3, h.n⟩ : SKey))) ∧ ∃ m0, st = ⟨(updS (updS (updS (updS (updS (fun _ => LV.undef) 1 (.ref 64 g1 0 0)) 3 (.own 700001 g 0 r.length none)) 56 (.sl (em kh T.ices))) 57 (.int .i64 ((T.ices).length : Int))) 58 (.int .i64 (i : Int))), effM m0 [(64, ⟨g1, false, .var, 3, [kd T]⟩), (700001, ⟨g, false, .slc, 2, em kk r⟩)]⟩) (fun ⟨i, g, r⟩ => (T.ices).length - i) ⟨0, _, _⟩ ⟨_, (LessS.weak (LessS.upd (LessS.upd (LessS.upd (LessS.upd (LessS.upd (LessS.nil _) rfl) rfl) rfl) rfl) rfl) _), ⟨Nat.zero_le _, e4⟩, _, (congrArg (St.mk _) (effM_eq (Has.cons rfl (Has.cons rfl Has.nil))).symm)⟩ ?_
     rintro ⟨i, g, r⟩ _ ⟨⟨hi, hr⟩, m0, rfl⟩
     have hrl := congrArg List.length hr
     simp only [List.length_append, List.length_map, List.length_take, List.length_nil] at hrl
     refine Wp.seqI ?_
     refine Wp.regI I0.mono ?_
     refine GL.bin I0.mono rfl ?_
     refine GL.doneF ?_
     refine goOn ?_
     refine Wp.seqI ?_
     refine Wp.condI rfl (fun h59 => ?_) (fun h59 => ?_)
     ·first | replace h59 := of_decide_eq_true h59 | replace h59 := bne_true h59 | skip
      refine Wp.skipI ?_
      refine goOn ?_
      refine Wp.seqI ?_
      refine Wp.blockI ?_
      refine Wp.seqI ?_
      refine Wp.regI I0.mono ?_
      first | refine GL.indexAddrF I0.mono (sz := 3) rfl rfl rfl rfl (by omega) (by first | omega | (rw [em_len]; omega)) (by intro e he; obtain ⟨a, -, rfl⟩ := List.mem_map.1 he; rfl) (by first | with_reducible exact Int.toNat_natCast _ | rfl) ?_ | refine GL.indexAddr I0.mono (sz := 3) rfl rfl rfl rfl rfl rfl rfl rfl (by omega) (by first | omega | (rw [em_len]; omega)) (by first | (conv => lhs; simp only [Nat.zero_add, Int.toNat_natCast]) | rfl) ?_
      first | refine GL.loadW I0.mono (n := 3) rfl rfl rfl rfl (by simp) rfl rfl rfl ?_ | refine GL.loadFW I0.mono (n := 3) rfl rfl (em_get (by omega)) rfl rfl ?_ | refine GL.loadA I0.mono (n := 3) rfl rfl rfl rfl (by simp) rfl rfl (Nat.le_of_ble_eq_true rfl) (by first | (conv => lhs; simp only [List.take_succ_cons, List.take_zero, List.drop_succ_cons, List.drop_zero, List.nil_append, List.cons_append, List.drop_nil, List.append_nil, List.take_nil, List.set_cons_zero, List.set_cons_succ, Nat.zero_add, ni, nr, nc, ns, np, ic, nt, ei, cellsL]) | rfl) ?_ | refine GL.loadFA I0.mono (n := 3) rfl rfl (em_get (by omega)) rfl (Nat.le_of_ble_eq_true rfl) (by first | (conv => lhs; simp only [List.take_succ_cons, List.take_zero, List.drop_succ_cons, List.drop_zero, List.nil_append, List.cons_append, List.drop_nil, List.append_nil, List.take_nil, List.set_cons_zero, List.set_cons_succ, Nat.zero_add, ni, nr, nc, ns, np, ic, nt, ei, cellsL]) | rfl) ?_
      refine GL.alloc I0.mono (cs := [LV.int .i64 0, LV.int .i64 0, LV.int .i64 0]) rfl rfl ?_
      intro g11
      first | refine GL.storeW I0.mono (n := 3) rfl rfl rfl rfl rfl rfl rfl (by conv => lhs; whnf) rfl rfl rfl ?_ | refine GL.store I0.mono (n := 3) rfl rfl rfl rfl rfl rfl rfl rfl rfl rfl (Nat.le_of_ble_eq_true rfl) (by first | (conv => lhs; simp only [List.take_succ_cons, List.take_zero, List.drop_succ_cons, List.drop_zero, List.nil_append, List.cons_append, List.drop_nil, List.append_nil, List.take_nil, List.set_cons_zero, List.set_cons_succ, Nat.zero_add, ni, nr, nc, ns, np, ic, nt, ei, cellsL]) | rfl) (by first | (conv => lhs; simp only [List.take_succ_cons, List.take_zero, List.drop_succ_cons, List.drop_zero, List.nil_append, List.cons_append, List.drop_nil, List.append_nil, List.take_nil, List.set_cons_zero, List.set_cons_succ, Nat.zero_add, ni, nr, nc, ns, np, ic, nt, ei, cellsL]) | rfl) ?_
      refine GL.doneF ?_
      refine goOn ?_
      refine Wp.regI I0.mono ?_
      refine GL.move I0.mono (by conv => lhs; whnf) ?_
      first | refine GL.fieldAddr I0.mono (o := 0) rfl rfl rfl rfl (by conv => lhs; whnf) ?_ | refine GL.fieldAddrF I0.mono (o := 0) rfl rfl (by conv => lhs; whnf) ?_
      first | refine GL.load I0.mono rfl rfl rfl rfl (by simp) rfl rfl ?_ | refine GL.loadF I0.mono rfl rfl (em_get (by omega)) rfl ?_
      refine GL.buildS I0.mono (z := [LV.int .i64 0, LV.int .i64 0]) (cs := [_, _]) (n := 2) rfl rfl rfl (EvS.cons (by conv => lhs; whnf) (EvS.cons (by conv => lhs; whnf) (EvS.nil))) rfl rfl ?_
      refine GL.buildSlice0 I0.mono (sz := 2) (z := [LV.int .i64 0, LV.int .i64 0]) (es := em kk [⟨3, (T.ices.getD i default).n⟩]) rfl rfl rfl rfl (by decide) (by decide) (by decide) (FrzP.cons (S := []) (T := []) (Frz.pures rfl) rfl (by decide) rfl (FrzP.nil)) rfl ?_
      intro g66
      refine GL.append1 I0.mono (f := kk) (v := ⟨3, (T.ices.getD i default).n⟩) (sz := 2) (z := [.int .i64 0, .int .i64 0]) rfl rfl rfl rfl rfl (by decide) (Nat.le_of_ble_eq_true rfl) rfl rfl rfl rfl rfl rfl rfl rfl rfl rfl rfl rfl rfl rfl rfl rfl (by omega) ?_
      refine GL.assign I0.mono (by conv => lhs; whnf) ?_
      refine GL.doneF ?_
      refine blockX.normal ?_
      refine goOn ?_
      refine Wp.regI I0.mono ?_
      first | refine GL.addR I0.mono rfl rfl (by first | omega | assumption) ?_ | refine GL.bin I0.mono rfl ?_
      refine GL.move I0.mono (by conv => lhs; whnf) ?_
      refine GL.doneF ?_
      refine ⟨⟨i + 1, _, _⟩, (by dsimp only; omega), _, (LessS.weak (LessS.upd (LessS.upd (LessS.upd (LessS.upd (LessS.upd (LessS.nil _) rfl) (by rw [List.length_append]; rfl)) rfl) rfl) rfl) _), ⟨by omega, by rw [hr, take_snocG (by omega), List.map_append, List.append_assoc]; rfl⟩, _, (congrArg (St.mk _) (effM_eq (Has.cons rfl (Has.cons rfl Has.nil))).symm)⟩
     ·first | replace h59 := of_decide_eq_false h59 | replace h59 := bne_false h59 | skip
      rw [List.take_of_length_le (by omega), ← hL] at hr
      subst hr
      refine Wp.exitI ?_
      refine thenX.exit ?_
      refine thenX.exit ?_
      refine blockX.out ?_
      refine goOn ?_
      refine Wp.seqI ?_
      rcases r with _ | ⟨x, r0⟩
      ·skip
       refine Wp.regI I0.mono ?_
       refine GL.move I0.mono (by conv => lhs; whnf) ?_
       refine GL.callFl I0.mono rfl (Frz.aggc (by exact Frz.whole rfl rfl rfl rfl rfl) (Frz.aggc (Frz.fn Frz.aggn) Frz.aggn)) (sortKN 98) (.tup .aggn) rfl rfl ?_
       refine GL.doneF ?_
       refine goOn ?_
       refine Wp.seqI ?_
       refine Wp.regI I0.mono ?_
       refine GL.move I0.mono (by conv => lhs; whnf) ?_
       first | refine GL.lendT I0.mono (es' := em kk (compactF (isortC cmpK [] (x :: r0)))) rfl rfl rfl rfl rfl rfl rfl (by rw [em_len, isortC_len]; simp) rfl Frz.aggn (compactK _ (by rw [isortC_len]; simp at hl ⊢; omega)) (em_len _ _) ?_ | refine GL.lendT I0.mono (es' := em kk (compactF (isortC cmpK [] []))) rfl rfl rfl rfl rfl rfl rfl (by rfl) rfl Frz.aggn (compactK [] (by simp)) (em_len _ _) ?_
       intro y72 g72
       refine GL.assign I0.mono (by conv => lhs; whnf) ?_
       refine GL.doneF ?_
       refine goOn ?_
       refine Wp.retI ?_
       refine RetX.ret ?_
       exact ⟨_, _, _, _, .cons (.tmp rfl) .nil, .slo rfl rfl rfl rfl (by rw [em_len]; simp), by simp, by simp, rfl⟩
      ·skip
       refine Wp.regI I0.mono ?_
       refine GL.move I0.mono (by conv => lhs; whnf) ?_
       refine GL.lendS I0.mono (T := []) (es' := em kk (isortC cmpK [] (x :: r0))) rfl rfl rfl rfl rfl rfl rfl (by rw [em_len]) (by simp) rfl (by rw [em_len, em_len, isortC_len]; simp) (Frz.aggc (Frz.fn Frz.aggn) Frz.aggn) (by decide) (sortKP cmpK x r0 (by omega) 98 cmpK_ok) ?_
       refine GL.doneF ?_
       refine goOn ?_
       refine Wp.seqI ?_
       refine Wp.regI I0.mono ?_
       refine GL.move I0.mono (by conv => lhs; whnf) ?_
       first | refine GL.lendT I0.mono (es' := em kk (compactF (isortC cmpK [] (x :: r0)))) rfl rfl rfl rfl rfl rfl rfl (by rw [em_len, isortC_len]; simp) rfl Frz.aggn (compactK _ (by rw [isortC_len]; simp at hl ⊢; omega)) (em_len _ _) ?_ | refine GL.lendT I0.mono (es' := em kk (compactF (isortC cmpK [] []))) rfl rfl rfl rfl rfl rfl rfl (by rfl) rfl Frz.aggn (compactK [] (by simp)) (em_len _ _) ?_
       intro y72 g72
       refine GL.assign I0.mono (by conv => lhs; whnf) ?_
       refine GL.doneF ?_
       refine goOn ?_
       refine Wp.retI ?_
       refine RetX.ret ?_
       exact ⟨_, _, _, _, .cons (.tmp rfl) .nil, .slo rfl rfl rfl rfl (by rw [em_len]; simp), by simp, by simp, rfl⟩

end Go.Proofs.Ytffnlhjdlhpmjaa
