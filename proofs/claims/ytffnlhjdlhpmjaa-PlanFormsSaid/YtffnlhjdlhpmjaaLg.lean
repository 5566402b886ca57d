/- Is all there that an edit speaks of: walked. -/
import Derived.Test.YtffnlhjdlhpmjaaProg
import Derived.Test.YtffnlhjdlhpmjaaLb
import Derived.Test.YtffnlhjdlhpmjaaLf
import Derived.Test.YtffnlhjdlhpmjaaMvD
import Derived.KernelRfl
set_option linter.all false
namespace Go.Proofs.Ytffnlhjdlhpmjaa
open Go.Proofs Mv
set_option maxRecDepth 100000 in
set_option maxHeartbeats 4000000 in
theorem carIn_ok (p : Plan) (hp : OkP p) (n : Int) : CallsV Try.prog 133 [.int .i64 n, .fad [kp p] 0 0] (.bool (carIn p n)) := by
  refine CallsR.intro (I0.sound _) mix Try.func133 rfl rfl (by simp [Try.f133]) (by kernel_rfl) (nb := 0) ?_
  unfold Try.f133
  refine Wp.seqI ?_
  have h1 := hp.routes
  have h2 := hp.lock
  refine Wp.regI I0.mono ?_
  refine GL.assign I0.mono (by conv => lhs; whnf) ?_
  refine GL.doneF ?_
  refine goOn ?_
  refine Wp.seqI ?_
  refine Wp.regI I0.mono ?_
  refine GL.move I0.mono (by conv => lhs; whnf) ?_
  refine GL.bin I0.mono rfl ?_
  refine GL.move I0.mono (by conv => lhs; whnf) ?_
  refine GL.splitAt 6 rfl (fun h6 => ?_) (fun h6 => ?_)
  ·rw [h6]
   replace h6 := of_decide_eq_true h6
   refine GL.guardT rfl ?_
   refine GL.move I0.mono (by conv => lhs; whnf) ?_
   refine GL.guardT rfl ?_
   refine GL.fieldAddrF I0.mono (o := 0) rfl rfl (by conv => lhs; whnf) ?_
   refine GL.guardT rfl ?_
   refine GL.loadF I0.mono rfl rfl rfl rfl ?_
   refine GL.guardT rfl ?_
   refine GL.lenF I0.mono rfl rfl (em_len _ _) ?_
   refine GL.guardT rfl ?_
   refine GL.bin I0.mono rfl ?_
   refine GL.pick I0.mono rfl (by conv => lhs; whnf) ?_
   refine GL.assign I0.mono (by conv => lhs; whnf) ?_
   refine GL.doneF ?_
   refine goOn ?_
   refine Wp.retI ?_
   refine RetX.ret ?_
   refine ⟨_, _, _, _, .cons (.tmp rfl) .nil, .frz (.pure rfl), List.nodup_nil, by simp, ?_⟩
   show LV.bool _ = LV.bool _
   congr 1
   unfold carIn
   (rw [decide_eq_true (by omega : 0 ≤ n)]; rfl)
  ·rw [h6]
   replace h6 := of_decide_eq_false h6
   refine GL.guardF rfl ?_
   refine GL.guardF rfl ?_
   refine GL.guardF rfl ?_
   refine GL.guardF rfl ?_
   refine GL.guardF rfl ?_
   refine GL.pick I0.mono rfl (by conv => lhs; whnf) ?_
   refine GL.assign I0.mono (by conv => lhs; whnf) ?_
   refine GL.doneF ?_
   refine goOn ?_
   refine Wp.retI ?_
   refine RetX.ret ?_
   refine ⟨_, _, _, _, .cons (.tmp rfl) .nil, .frz (.pure rfl), List.nodup_nil, by simp, ?_⟩
   show LV.bool _ = LV.bool _
   congr 1
   unfold carIn
   (rw [decide_eq_false (by omega : ¬ 0 ≤ n)]; rfl)

set_option maxRecDepth 100000 in
set_option maxHeartbeats 4000000 in
theorem stopIn_ok (p : Plan) (hp : OkP p) (n : Int) : CallsV Try.prog 134 [.int .i64 n, .fad [kp p] 0 0] (.bool (stopIn p n)) := by
  refine CallsR.intro (I0.sound _) mix Try.func134 rfl rfl (by simp [Try.f134]) (by kernel_rfl) (nb := 0) ?_
  unfold Try.f134
  refine Wp.seqI ?_
  have h1 := hp.routes
  have h2 := hp.lock
  refine Wp.regI I0.mono ?_
  refine GL.assign I0.mono (by conv => lhs; whnf) ?_
  refine GL.doneF ?_
  refine goOn ?_
  refine Wp.seqI ?_
  refine Wp.regI I0.mono ?_
  refine GL.move I0.mono (by conv => lhs; whnf) ?_
  refine GL.bin I0.mono rfl ?_
  refine GL.move I0.mono (by conv => lhs; whnf) ?_
  refine GL.splitAt 6 rfl (fun h6 => ?_) (fun h6 => ?_)
  ·rw [h6]
   replace h6 := of_decide_eq_true h6
   refine GL.guardT rfl ?_
   refine GL.move I0.mono (by conv => lhs; whnf) ?_
   refine GL.guardT rfl ?_
   refine GL.fieldAddrF I0.mono (o := 1) rfl rfl (by conv => lhs; whnf) ?_
   refine GL.guardT rfl ?_
   refine GL.loadF I0.mono rfl rfl rfl rfl ?_
   refine GL.guardT rfl ?_
   refine GL.lenF I0.mono rfl rfl (em_len _ _) ?_
   refine GL.guardT rfl ?_
   refine GL.bin I0.mono rfl ?_
   refine GL.pick I0.mono rfl (by conv => lhs; whnf) ?_
   refine GL.assign I0.mono (by conv => lhs; whnf) ?_
   refine GL.doneF ?_
   refine goOn ?_
   refine Wp.retI ?_
   refine RetX.ret ?_
   refine ⟨_, _, _, _, .cons (.tmp rfl) .nil, .frz (.pure rfl), List.nodup_nil, by simp, ?_⟩
   show LV.bool _ = LV.bool _
   congr 1
   unfold stopIn
   (rw [decide_eq_true (by omega : 1 ≤ n)]; rfl)
  ·rw [h6]
   replace h6 := of_decide_eq_false h6
   refine GL.guardF rfl ?_
   refine GL.guardF rfl ?_
   refine GL.guardF rfl ?_
   refine GL.guardF rfl ?_
   refine GL.guardF rfl ?_
   refine GL.pick I0.mono rfl (by conv => lhs; whnf) ?_
   refine GL.assign I0.mono (by conv => lhs; whnf) ?_
   refine GL.doneF ?_
   refine goOn ?_
   refine Wp.retI ?_
   refine RetX.ret ?_
   refine ⟨_, _, _, _, .cons (.tmp rfl) .nil, .frz (.pure rfl), List.nodup_nil, by simp, ?_⟩
   show LV.bool _ = LV.bool _
   congr 1
   unfold stopIn
   (rw [decide_eq_false (by omega : ¬ 1 ≤ n)]; rfl)

set_option maxRecDepth 100000 in
set_option maxHeartbeats 4000000 in
theorem notStop_ok (p : Plan) (hp : OkP p) (n : Int) : CallsV Try.prog 135 [.int .i64 n, .fad [[.fn 134 [.fad [kp p] 0 0]]] 0 0] (.bool (!stopIn p n)) := by
  refine CallsR.intro (I0.sound _) mix Try.func135 rfl rfl (by simp [Try.f135]) (by kernel_rfl) (nb := 0) ?_
  unfold Try.f135
  refine Wp.seqI ?_
  refine Wp.regI I0.mono ?_
  refine GL.assign I0.mono (by conv => lhs; whnf) ?_
  refine GL.doneF ?_
  refine goOn ?_
  refine Wp.seqI ?_
  refine Wp.regI I0.mono ?_
  refine GL.loadF I0.mono rfl rfl rfl rfl ?_
  refine GL.move I0.mono (by conv => lhs; whnf) ?_
  refine GL.call0 I0.mono rfl (Frz.aggc (Frz.pure rfl) (Frz.aggc (Frz.pure rfl) Frz.aggn)) (stopIn_ok p hp n) rfl rfl (fun _ => rfl) ?_
  refine GL.un I0.mono rfl ?_
  refine GL.assign I0.mono (by conv => lhs; whnf) ?_
  refine GL.doneF ?_
  refine goOn ?_
  refine Wp.retI ?_
  refine RetX.ret ?_
  refine ⟨_, _, _, _, .cons (.tmp rfl) .nil, .frz (.pure rfl), List.nodup_nil, by simp, ?_⟩
  rfl

set_option maxRecDepth 100000 in
set_option maxHeartbeats 4000000 in
theorem notCar_ok (p : Plan) (hp : OkP p) (h : Hold) : CallsV Try.prog 136 [.agg (kh h), .fad [[.fn 133 [.fad [kp p] 0 0]]] 0 0] (.bool (!carIn p h.n)) := by
  refine CallsR.intro (I0.sound _) mix Try.func136 rfl rfl (by simp [Try.f136]) (by kernel_rfl) (nb := 0) ?_
  unfold Try.f136
  refine Wp.seqI ?_
  refine Wp.regI I0.mono ?_
  refine GL.box I0.mono (by conv => lhs; whnf) rfl (n := 3) rfl rfl ?_
  intro g2
  refine GL.assign I0.mono (by conv => lhs; whnf) ?_
  refine GL.doneF ?_
  refine goOn ?_
  refine Wp.seqI ?_
  refine Wp.regI I0.mono ?_
  refine GL.loadF I0.mono rfl rfl rfl rfl ?_
  refine GL.fieldAddr I0.mono (o := 0) rfl rfl rfl rfl (by conv => lhs; whnf) ?_
  refine GL.load I0.mono rfl rfl rfl rfl (by simp) rfl rfl ?_
  refine GL.call0 I0.mono rfl (Frz.aggc (Frz.pure rfl) (Frz.aggc (Frz.pure rfl) Frz.aggn)) (carIn_ok p hp h.n) rfl rfl (fun _ => rfl) ?_
  refine GL.un I0.mono rfl ?_
  refine GL.assign I0.mono (by conv => lhs; whnf) ?_
  refine GL.doneF ?_
  refine goOn ?_
  refine Wp.retI ?_
  refine RetX.ret ?_
  refine ⟨_, _, _, _, .cons (.tmp rfl) .nil, .frz (.pure rfl), List.nodup_nil, by simp, ?_⟩
  rfl

theorem any_not {α : Type} (l : List α) (f : α → Bool) : (l.any fun x => !f x) = !l.all f := by
  induction l with
  | nil => rfl
  | cons x r ih => simp [ih]

set_option maxRecDepth 100000 in
set_option maxHeartbeats 4000000 in
theorem there_ok (p : Plan) (hp : OkP p) (d : Delta) (hd : OkD d) : CallsV Try.prog 87 [.agg (kp p), .agg (kd d)] (.bool (thereB p d)) := by
  refine CallsR.intro (I0.sound _) mix Try.func87 rfl rfl (by simp [Try.f87]) (by kernel_rfl) (nb := 0) ?_
  unfold Try.f87
  refine Wp.seqI ?_
  obtain ⟨d1, d2, d3, d4⟩ := hd
  refine Wp.regI I0.mono ?_
  refine GL.box I0.mono (by conv => lhs; whnf) rfl (n := 7) rfl rfl ?_
  intro g2
  refine GL.box I0.mono (by conv => lhs; whnf) rfl (n := 3) rfl rfl ?_
  intro g3
  refine GL.assign I0.mono (by conv => lhs; whnf) ?_
  refine GL.doneF ?_
  refine goOn ?_
  refine Wp.seqI ?_
  refine Wp.regI I0.mono ?_
  refine GL.makeFunc I0.mono rfl ?_
  refine GL.alloc I0.mono (cs := [LV.undef]) rfl rfl ?_
  intro g5
  refine GL.store I0.mono (n := 1) rfl rfl rfl rfl rfl rfl rfl rfl rfl rfl (Nat.le_of_ble_eq_true rfl) (by (conv => lhs; simp only [List.take_succ_cons, List.take_zero, List.drop_succ_cons, List.drop_zero, List.nil_append, List.cons_append, List.drop_nil, List.append_nil, List.take_nil, List.set_cons_zero, List.set_cons_succ, Nat.zero_add, kp, kd, kt, kh])) (by (conv => lhs; simp only [List.take_succ_cons, List.take_zero, List.drop_succ_cons, List.drop_zero, List.nil_append, List.cons_append, List.drop_nil, List.append_nil, List.take_nil, List.set_cons_zero, List.set_cons_succ, Nat.zero_add, kp, kd, kt, kh])) ?_
  refine GL.doneF ?_
  refine goOn ?_
  refine Wp.seqI ?_
  refine Wp.regI I0.mono ?_
  refine GL.makeFunc I0.mono rfl ?_
  refine GL.alloc I0.mono (cs := [LV.undef]) rfl rfl ?_
  intro g6
  refine GL.store I0.mono (n := 1) rfl rfl rfl rfl rfl rfl rfl rfl rfl rfl (Nat.le_of_ble_eq_true rfl) (by (conv => lhs; simp only [List.take_succ_cons, List.take_zero, List.drop_succ_cons, List.drop_zero, List.nil_append, List.cons_append, List.drop_nil, List.append_nil, List.take_nil, List.set_cons_zero, List.set_cons_succ, Nat.zero_add, kp, kd, kt, kh])) (by (conv => lhs; simp only [List.take_succ_cons, List.take_zero, List.drop_succ_cons, List.drop_zero, List.nil_append, List.cons_append, List.drop_nil, List.append_nil, List.take_nil, List.set_cons_zero, List.set_cons_succ, Nat.zero_add, kp, kd, kt, kh])) ?_
  refine GL.doneF ?_
  refine goOn ?_
  refine Wp.seqI ?_
  refine Wp.seqI ?_
  refine Wp.regI I0.mono ?_
  refine GL.fieldAddr I0.mono (o := 0) rfl rfl rfl rfl (by conv => lhs; whnf) ?_
  refine GL.load I0.mono rfl rfl rfl rfl (by simp) rfl rfl ?_
  refine GL.lenF I0.mono rfl rfl (em_len _ _) ?_
  refine GL.move I0.mono (by conv => lhs; whnf) ?_
  refine GL.doneF ?_
  refine goOn ?_
  refine Wp.blockI ?_
  refine Wp.loopI I0.mono (α := Nat) (fun i st => (i ≤ d.turns.length ∧ ∀ j, j < i → turnIn p (d.turns.getD j default) = true) ∧ ∃ m0, st = ⟨(updS (updS (updS (updS (updS (updS (updS (fun _ => LV.undef) 2 (.ref 128 g2 0 0)) 3 (.ref 192 g3 0 0)) 5 (.ref 320 g5 0 0)) 6 (.ref 384 g6 0 0)) 14 (.sl (em kt d.turns))) 15 (.int .i64 (d.turns.length : Int))) 16 (.int .i64 (i : Int))), effM m0 [(128, ⟨g2, false, .var, 7, [kp p]⟩), (192, ⟨g3, false, .var, 3, [kd d]⟩), (320, ⟨g5, false, .var, 1, [[.fn 133 [.ref 128 g2 0 0]]]⟩), (384, ⟨g6, false, .var, 1, [[.fn 134 [.ref 128 g2 0 0]]]⟩)]⟩) (fun i => d.turns.length - i) 0 ⟨_, (LessS.weak (LessS.upd (LessS.upd (LessS.upd (LessS.upd (LessS.upd (LessS.upd (LessS.upd (LessS.nil _) rfl) rfl) rfl) rfl) rfl) rfl) rfl) _), ⟨Nat.zero_le _, fun j h => by omega⟩, _, (congrArg (St.mk _) (effM_eq (Has.cons rfl (Has.cons rfl (Has.cons rfl (Has.cons rfl Has.nil))))).symm)⟩ ?_
  rintro i _ ⟨⟨hi, hA⟩, m0, rfl⟩
  refine Wp.seqI ?_
  refine Wp.regI I0.mono ?_
  refine GL.bin I0.mono rfl ?_
  refine GL.doneF ?_
  refine goOn ?_
  refine Wp.seqI ?_
  refine Wp.condI rfl (fun h17 => ?_) (fun h17 => ?_)
  ·replace h17 := of_decide_eq_true h17
   refine Wp.skipI ?_
   refine goOn ?_
   refine Wp.seqI ?_
   refine Wp.blockI ?_
   refine Wp.seqI ?_
   refine Wp.regI I0.mono ?_
   refine GL.indexAddrF I0.mono (sz := 3) rfl rfl rfl rfl (by omega) (by (rw [em_len]; omega)) (by intro e he; obtain ⟨a, -, rfl⟩ := List.mem_map.1 he; rfl) (by with_reducible exact Int.toNat_natCast _) ?_
   refine GL.loadFW I0.mono (n := 3) rfl rfl (em_get (by omega)) rfl rfl ?_
   refine GL.alloc I0.mono (cs := [LV.int .i64 0, LV.nils, LV.nils]) rfl rfl ?_
   intro g8
   refine GL.storeW I0.mono (n := 3) rfl rfl rfl rfl rfl rfl rfl (by conv => lhs; whnf) rfl rfl rfl ?_
   refine GL.doneF ?_
   refine goOn ?_
   refine Wp.seqI ?_
   refine Wp.regI I0.mono ?_
   refine GL.load I0.mono rfl rfl rfl rfl (by simp) rfl rfl ?_
   refine GL.fieldAddr I0.mono (o := 0) rfl rfl rfl rfl (by conv => lhs; whnf) ?_
   refine GL.load I0.mono rfl rfl rfl rfl (by simp) rfl rfl ?_
   refine GL.callFl I0.mono rfl (Frz.aggc (Frz.pure rfl) (Frz.aggc (Frz.ref rfl rfl rfl rfl (Frz.pures rfl)) Frz.aggn)) (carIn_ok p hp _) (.sca rfl) rfl rfl ?_
   refine GL.un I0.mono rfl ?_
   refine GL.move I0.mono (by conv => lhs; whnf) ?_
   refine GL.splitAt 25 rfl (fun h25 => ?_) (fun h25 => ?_)
   ·rw [h25]
    skip
    refine GL.guardF rfl ?_
    refine GL.guardF rfl ?_
    refine GL.guardF rfl ?_
    refine GL.guardF rfl ?_
    refine GL.pick I0.mono rfl (by conv => lhs; whnf) ?_
    refine GL.doneF ?_
    refine goOn ?_
    refine Wp.condT rfl ?_
    refine Wp.seqI ?_
    refine Wp.regI I0.mono ?_
    refine GL.assign I0.mono (by conv => lhs; whnf) ?_
    refine GL.doneF ?_
    refine goOn ?_
    refine Wp.retI ?_
    refine blockX.ret ?_
    refine thenX.ret ?_
    refine thenX.ret ?_
    refine blockX.ret ?_
    refine thenX.ret ?_
    refine RetX.ret ?_
    refine ⟨_, _, _, _, .cons (.tmp rfl) .nil, .frz (.pure rfl), List.nodup_nil, by simp, ?_⟩
    show LV.bool _ = LV.bool _
    congr 1
    unfold thereB
    first
    | (rw [all_no (k := i) (by omega) (by unfold turnIn; simp_all [any_not])]; rfl)
    | (rw [all_no (l := d.locks) (k := i) (by omega) (by simpa using h43)]; simp)
    | (rw [any_not, all_yes fun j hj => hA j (by omega), all_yes (l := d.locks) fun j hj => hB j (by omega)]; simp)
   ·rw [h25]
    skip
    refine GL.guardT rfl ?_
    refine GL.fieldAddr I0.mono (o := 2) rfl rfl rfl rfl (by conv => lhs; whnf) ?_
    refine GL.guardT rfl ?_
    refine GL.load I0.mono rfl rfl rfl rfl (by simp) rfl rfl ?_
    refine GL.guardT rfl ?_
    refine GL.makeFunc I0.mono rfl ?_
    refine GL.guardT rfl ?_
    refine GL.callFl I0.mono rfl (Frz.aggc (Frz.pure rfl) (Frz.aggc (Frz.fn (Frz.aggc (Frz.ref rfl rfl rfl rfl (Frz.aggc (Frz.fn (Frz.aggc (Frz.ref rfl rfl rfl rfl (Frz.pures rfl)) Frz.aggn)) Frz.aggn)) Frz.aggn)) Frz.aggn)) (contI_ok (d.turns.getD i default).after (by have := (d4 _ (getD_mem (l := d.turns) (j := i) (by omega))).2; omega) 135 [.fad [[.fn 134 [.fad [kp p] 0 0]]] 0 0] rfl (fun s => !stopIn p s) fun s _ => notStop_ok p hp s) (.sca rfl) rfl rfl ?_
    refine GL.pick I0.mono rfl (by conv => lhs; whnf) ?_
    refine GL.doneF ?_
    refine goOn ?_
    refine Wp.condI rfl (fun h30 => ?_) (fun h30 => ?_)
    ·skip
     refine Wp.seqI ?_
     refine Wp.regI I0.mono ?_
     refine GL.assign I0.mono (by conv => lhs; whnf) ?_
     refine GL.doneF ?_
     refine goOn ?_
     refine Wp.retI ?_
     refine blockX.ret ?_
     refine thenX.ret ?_
     refine thenX.ret ?_
     refine blockX.ret ?_
     refine thenX.ret ?_
     refine RetX.ret ?_
     refine ⟨_, _, _, _, .cons (.tmp rfl) .nil, .frz (.pure rfl), List.nodup_nil, by simp, ?_⟩
     show LV.bool _ = LV.bool _
     congr 1
     unfold thereB
     first
     | (rw [all_no (k := i) (by omega) (by unfold turnIn; simp_all [any_not])]; rfl)
     | (rw [all_no (l := d.locks) (k := i) (by omega) (by simpa using h43)]; simp)
     | (rw [any_not, all_yes fun j hj => hA j (by omega), all_yes (l := d.locks) fun j hj => hB j (by omega)]; simp)
    ·skip
     refine Wp.skipI ?_
     refine blockX.normal ?_
     refine goOn ?_
     refine Wp.regI I0.mono ?_
     refine GL.addR I0.mono rfl rfl (by omega) ?_
     refine GL.move I0.mono (by conv => lhs; whnf) ?_
     refine GL.doneF ?_
     refine ⟨i + 1, (by dsimp only; omega), _, (LessS.weak (LessS.upd (LessS.upd (LessS.upd (LessS.upd (LessS.upd (LessS.upd (LessS.upd (LessS.nil _) rfl) rfl) rfl) rfl) rfl) rfl) rfl) _), ⟨by omega, fun j h => by
           by_cases hj : j = i
           · subst hj; unfold turnIn; simp_all [any_not]
           · exact hA j (by omega)⟩, _, (congrArg (St.mk _) (effM_eq (Has.cons rfl (Has.cons rfl (Has.cons rfl (Has.cons rfl Has.nil))))).symm)⟩
  ·replace h17 := of_decide_eq_false h17
   refine Wp.exitI ?_
   refine thenX.exit ?_
   refine thenX.exit ?_
   refine blockX.out ?_
   refine goOn ?_
   refine Wp.seqI ?_
   refine Wp.seqI ?_
   refine Wp.regI I0.mono ?_
   refine GL.fieldAddr I0.mono (o := 1) rfl rfl rfl rfl (by conv => lhs; whnf) ?_
   refine GL.load I0.mono rfl rfl rfl rfl (by simp) rfl rfl ?_
   refine GL.lenF I0.mono rfl rfl (em_len _ _) ?_
   refine GL.move I0.mono (by conv => lhs; whnf) ?_
   refine GL.doneF ?_
   refine goOn ?_
   refine Wp.blockI ?_
   refine Wp.loopI I0.mono (α := Nat) (fun i st => (i ≤ d.locks.length ∧ ∀ j, j < i → stopIn p (d.locks.getD j default).n = true) ∧ ∃ m0, st = ⟨(updS (updS (updS (updS (updS (updS (updS (fun _ => LV.undef) 2 (.ref 128 g2 0 0)) 3 (.ref 192 g3 0 0)) 5 (.ref 320 g5 0 0)) 6 (.ref 384 g6 0 0)) 33 (.sl (em kh d.locks))) 34 (.int .i64 (d.locks.length : Int))) 35 (.int .i64 (i : Int))), effM m0 [(128, ⟨g2, false, .var, 7, [kp p]⟩), (192, ⟨g3, false, .var, 3, [kd d]⟩), (320, ⟨g5, false, .var, 1, [[.fn 133 [.ref 128 g2 0 0]]]⟩), (384, ⟨g6, false, .var, 1, [[.fn 134 [.ref 128 g2 0 0]]]⟩)]⟩) (fun i => d.locks.length - i) 0 ⟨_, (LessS.weak (LessS.upd (LessS.upd (LessS.upd (LessS.upd (LessS.upd (LessS.upd (LessS.upd (LessS.nil _) rfl) rfl) rfl) rfl) rfl) rfl) rfl) _), ⟨Nat.zero_le _, fun j h => by omega⟩, _, (congrArg (St.mk _) (effM_eq (Has.cons rfl (Has.cons rfl (Has.cons rfl (Has.cons rfl Has.nil))))).symm)⟩ ?_
   rintro i _ ⟨⟨hi2, hB⟩, m0, rfl⟩
   refine Wp.seqI ?_
   refine Wp.regI I0.mono ?_
   refine GL.bin I0.mono rfl ?_
   refine GL.doneF ?_
   refine goOn ?_
   refine Wp.seqI ?_
   refine Wp.condI rfl (fun h36 => ?_) (fun h36 => ?_)
   ·replace h36 := of_decide_eq_true h36
    refine Wp.skipI ?_
    refine goOn ?_
    refine Wp.seqI ?_
    refine Wp.blockI ?_
    refine Wp.seqI ?_
    refine Wp.regI I0.mono ?_
    refine GL.indexAddrF I0.mono (sz := 3) rfl rfl rfl rfl (by omega) (by (rw [em_len]; omega)) (by intro e he; obtain ⟨a, -, rfl⟩ := List.mem_map.1 he; rfl) (by with_reducible exact Int.toNat_natCast _) ?_
    refine GL.loadFW I0.mono (n := 3) rfl rfl (em_get (by omega)) rfl rfl ?_
    refine GL.alloc I0.mono (cs := [LV.int .i64 0, LV.int .i64 0, LV.int .i64 0]) rfl rfl ?_
    intro g10
    refine GL.storeW I0.mono (n := 3) rfl rfl rfl rfl rfl rfl rfl (by conv => lhs; whnf) rfl rfl rfl ?_
    refine GL.doneF ?_
    refine goOn ?_
    refine Wp.seqI ?_
    refine Wp.regI I0.mono ?_
    refine GL.load I0.mono rfl rfl rfl rfl (by simp) rfl rfl ?_
    refine GL.fieldAddr I0.mono (o := 0) rfl rfl rfl rfl (by conv => lhs; whnf) ?_
    refine GL.load I0.mono rfl rfl rfl rfl (by simp) rfl rfl ?_
    refine GL.callFl I0.mono rfl (Frz.aggc (Frz.pure rfl) (Frz.aggc (Frz.ref rfl rfl rfl rfl (Frz.pures rfl)) Frz.aggn)) (stopIn_ok p hp _) (.sca rfl) rfl rfl ?_
    refine GL.un I0.mono rfl ?_
    refine GL.doneF ?_
    refine goOn ?_
    refine Wp.condI rfl (fun h43 => ?_) (fun h43 => ?_)
    ·skip
     refine Wp.seqI ?_
     refine Wp.regI I0.mono ?_
     refine GL.assign I0.mono (by conv => lhs; whnf) ?_
     refine GL.doneF ?_
     refine goOn ?_
     refine Wp.retI ?_
     refine blockX.ret ?_
     refine thenX.ret ?_
     refine thenX.ret ?_
     refine blockX.ret ?_
     refine thenX.ret ?_
     refine RetX.ret ?_
     refine ⟨_, _, _, _, .cons (.tmp rfl) .nil, .frz (.pure rfl), List.nodup_nil, by simp, ?_⟩
     show LV.bool _ = LV.bool _
     congr 1
     unfold thereB
     first
     | (rw [all_no (k := i) (by omega) (by unfold turnIn; simp_all [any_not])]; rfl)
     | (rw [all_no (l := d.locks) (k := i) (by omega) (by simpa using h43)]; simp)
     | (rw [any_not, all_yes fun j hj => hA j (by omega), all_yes (l := d.locks) fun j hj => hB j (by omega)]; simp)
    ·skip
     refine Wp.skipI ?_
     refine blockX.normal ?_
     refine goOn ?_
     refine Wp.regI I0.mono ?_
     refine GL.addR I0.mono rfl rfl (by omega) ?_
     refine GL.move I0.mono (by conv => lhs; whnf) ?_
     refine GL.doneF ?_
     refine ⟨i + 1, (by dsimp only; omega), _, (LessS.weak (LessS.upd (LessS.upd (LessS.upd (LessS.upd (LessS.upd (LessS.upd (LessS.upd (LessS.nil _) rfl) rfl) rfl) rfl) rfl) rfl) rfl) _), ⟨by omega, fun j h => by
           by_cases hj : j = i
           · subst hj; simpa using h43
           · exact hB j (by omega)⟩, _, (congrArg (St.mk _) (effM_eq (Has.cons rfl (Has.cons rfl (Has.cons rfl (Has.cons rfl Has.nil))))).symm)⟩
   ·replace h36 := of_decide_eq_false h36
    refine Wp.exitI ?_
    refine thenX.exit ?_
    refine thenX.exit ?_
    refine blockX.out ?_
    refine goOn ?_
    refine Wp.seqI ?_
    refine Wp.regI I0.mono ?_
    refine GL.fieldAddr I0.mono (o := 2) rfl rfl rfl rfl (by conv => lhs; whnf) ?_
    refine GL.load I0.mono rfl rfl rfl rfl (by simp) rfl rfl ?_
    refine GL.makeFunc I0.mono rfl ?_
    refine GL.callFl I0.mono rfl (Frz.aggc (Frz.pure rfl) (Frz.aggc (Frz.fn (Frz.aggc (Frz.ref rfl rfl rfl rfl (Frz.aggc (Frz.fn (Frz.aggc (Frz.ref rfl rfl rfl rfl (Frz.pures rfl)) Frz.aggn)) Frz.aggn)) Frz.aggn)) Frz.aggn)) (contH_ok d.ices (by omega) 136 [.fad [[.fn 133 [.fad [kp p] 0 0]]] 0 0] rfl (fun h => !carIn p h.n) fun h _ => notCar_ok p hp h) (.sca rfl) rfl rfl ?_
    refine GL.un I0.mono rfl ?_
    refine GL.assign I0.mono (by conv => lhs; whnf) ?_
    refine GL.doneF ?_
    refine goOn ?_
    refine Wp.retI ?_
    refine RetX.ret ?_
    refine ⟨_, _, _, _, .cons (.tmp rfl) .nil, .frz (.pure rfl), List.nodup_nil, by simp, ?_⟩
    show LV.bool _ = LV.bool _
    congr 1
    unfold thereB
    first
    | (rw [all_no (k := i) (by omega) (by unfold turnIn; simp_all [any_not])]; rfl)
    | (rw [all_no (l := d.locks) (k := i) (by omega) (by simpa using h43)]; simp)
    | (rw [any_not, all_yes fun j hj => hA j (by omega), all_yes (l := d.locks) fun j hj => hB j (by omega)]; simp)

end Go.Proofs.Ytffnlhjdlhpmjaa
