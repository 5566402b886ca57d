/- The law of the pairs of a trip, walked. -/
import Derived.Test.YtpepcfombibpeaaFc
import Derived.Test.YtpepcfombibpeaaFg
import Derived.Test.YtpepcfombibpeaaMv37
import Derived.KernelRfl
set_option linter.unusedVariables false
set_option linter.unusedSimpArgs false
namespace Go.Proofs.Ytpepcfombibpeaa
open Go.Proofs Mv


theorem nb_t' {b : Bool} (h : (!b) = false) : b = true := by simpa using h

theorem ld_all {I : Inst} {N : Nat} {c : Car} {r : List Int} {T : Trip} (h : Drv I N c r T) (hc : 0 ≤ c.c0 ∧ c.c0 ≤ 1000 ∧ 0 ≤ c.c1 ∧ c.c1 ≤ 1000 ∧ 0 ≤ c.c2 ∧ c.c2 ≤ 1000) : 0 ≤ ld I 0 r ∧ ld I 0 r ≤ 1000 := by
  by_cases h0 : r.length = 0
  · rw [List.eq_nil_of_length_eq_zero h0]
    simp [ld]
  · have := (h.at' (r.length - 1) (by omega)).2.2.2.2.2.2.2.2.2.2.2.2.2.2.2
    rw [show r.length - 1 + 1 = r.length by omega, List.take_length] at this
    omega

theorem look1_ge (l : List Int) (n : Int) : 0 ≤ Mv.look 1 l n ∧ (Mv.has l n = true → Mv.look 1 l n = 1 + index l n) ∧ (Mv.look 1 l n > 0 ↔ Mv.has l n = true) := by
  by_cases h : index l n < 0
  · have e : Mv.look 1 l n = 0 := if_pos h
    have e2 : Mv.has l n = false := by unfold Mv.has; simpa using h
    rw [e, e2]
    simp
  · have e : Mv.look 1 l n = 1 + index l n := if_neg h
    have e2 : Mv.has l n = true := by unfold Mv.has; simpa using h
    rw [e, e2]
    simp
    omega
theorem look1_pok {l : List Int} {p : Two} (h : POk l p) : Mv.look 1 l p.p0 ≤ Mv.look 1 l p.p1 ∧ (Mv.look 1 l p.p0 > 0 ↔ Mv.look 1 l p.p1 > 0) := by
  have h0 := look1_ge l p.p0
  have h1 := look1_ge l p.p1
  obtain ⟨q1, q2⟩ := h
  rw [h0.2.2, h1.2.2, q1]
  refine ⟨?_, Iff.rfl⟩
  by_cases e : Mv.has l p.p0 = true
  · rw [h0.2.1 e, h1.2.1 (q1 ▸ e)]
    have := q2 e
    omega
  · have : ¬ Mv.look 1 l p.p0 > 0 := fun h => e (h0.2.2.1 h)
    omega
theorem order_dist {i : Inst} {l : List Int} (h : order i l = true) {k : Nat} (hk : k < l.length) : Mv.has (l.take k) (l.getD k default) = false := by
  unfold order at h
  rw [List.all_eq_true] at h
  exact (chk_iff.1 (h k (List.mem_range.2 hk))).2.1
theorem neq_dec {p q : Prop} [Decidable p] [Decidable q] (h : (p ↔ q)) : (!(decide p == decide q)) = false := by
  by_cases hq : q
  · simp [hq, h.2 hq]
  · have hp : ¬ p := fun hp => hq (h.1 hp)
    simp [hp, hq]
theorem load_last {I : Inst} {N : Nat} {c : Car} {r : List Int} {T : Trip} (h : Drv I N c r T) (h0 : 0 < r.length) : T.t1.getD ((T.t1.length : Int) - 1).toNat default = ld I 0 r := by
  have h1 := h.len1
  have := (h.at' (r.length - 1) (by omega)).2.2.2.2.2.2.2.2.2.2.2.2.2.1
  rw [show r.length - 1 + 1 = r.length by omega, List.take_length] at this
  rw [show ((T.t1.length : Int) - 1).toNat = r.length - 1 by omega, this]

set_option maxRecDepth 100000 in
set_option maxHeartbeats 4000000 in
theorem tp_walk (z0 z1 : List Int) (n : Int) (I : Inst) (N : Nat) (hb : Sb I N) (hp : Sp I) (hd : Sd I) (hI : CallsV Try.prog 29 [.sl (em ni z0)] (ei I)) (r : List Int) (hr : CallsV Try.prog 30 [ei I, .sl (em ni z1)] (.sl (em ni r))) (hrl : r.length ≤ 14) (c : Int) (hc : within n I.cars.length = c) (T : Trip) (b : Bool) (he : CallsV Try.prog 23 [ei I, .int .i64 c, .sl (em ni r)] (.tup [.agg (nt T), .bool b])) (h1 : b = true → Drv I N (I.cars.getD c.toNat default) r T) (h2 : b = true → order I r = true) : CallsV Try.prog 7 [.sl (em ni z0), .sl (em ni z1), .int .i64 n] (.bool true) := by
  refine CallsR.intro (I0.sound _) mix Try.func7 rfl rfl (by simp [Try.f7]) (by kernel_rfl) (nb := 0) ?_
  unfold Try.f7
  refine Wp.seqI ?_
  refine Wp.regI I0.mono ?_
  refine GL.assign I0.mono (by conv => lhs; whnf) ?_
  refine GL.doneF ?_
  refine goOn ?_
  refine Wp.seqI ?_
  refine Wp.regI I0.mono ?_
  refine GL.move I0.mono (by conv => lhs; whnf) ?_
  refine GL.call0 I0.mono rfl (Frz.aggc (by first | exact Frz.pure rfl | exact Frz.pures rfl | exact Frz.nils | exact Frz.whole rfl rfl rfl rfl (by first | exact em_len _ _ | (rw [em_len]; omega)) | exact (Frz.aggc (by first | exact Frz.pure rfl | exact Frz.nils | exact Frz.whole rfl rfl rfl rfl (by first | exact em_len _ _ | (rw [em_len]; omega))) (Frz.aggc (by first | exact Frz.pure rfl | exact Frz.nils | exact Frz.whole rfl rfl rfl rfl (by first | exact em_len _ _ | (rw [em_len]; omega))) (Frz.aggc (by first | exact Frz.pure rfl | exact Frz.nils | exact Frz.whole rfl rfl rfl rfl (by first | exact em_len _ _ | (rw [em_len]; omega))) (Frz.aggc (by first | exact Frz.pure rfl | exact Frz.nils | exact Frz.whole rfl rfl rfl rfl (by first | exact em_len _ _ | (rw [em_len]; omega))) Frz.aggn))))) (Frz.aggn)) (hI) rfl rfl (fun _ => rfl) ?_
  refine GL.alloc I0.mono (cs := [LV.nils, LV.nils, LV.nils, LV.nils]) rfl rfl ?_
  intro g7
  refine GL.store I0.mono (n := 4) rfl rfl rfl rfl rfl rfl rfl rfl rfl rfl (Nat.le_of_ble_eq_true rfl) (by first | (conv => lhs; simp only [List.take_succ_cons, List.take_zero, List.drop_succ_cons, List.drop_zero, List.nil_append, List.cons_append, List.drop_nil, List.append_nil, List.take_nil, List.set_cons_zero, List.set_cons_succ, Nat.zero_add, ni, nr, nc, ns, np, ic, nt, ei, cellsL]) | rfl) (by first | (conv => lhs; simp only [List.take_succ_cons, List.take_zero, List.drop_succ_cons, List.drop_zero, List.nil_append, List.cons_append, List.drop_nil, List.append_nil, List.take_nil, List.set_cons_zero, List.set_cons_succ, Nat.zero_add, ni, nr, nc, ns, np, ic, nt, ei, cellsL]) | rfl) ?_
  refine GL.doneF ?_
  refine goOn ?_
  refine Wp.seqI ?_
  refine Wp.regI I0.mono ?_
  refine GL.move I0.mono (by conv => lhs; whnf) ?_
  first | refine GL.fieldAddr I0.mono (o := 0) rfl rfl rfl rfl (by conv => lhs; whnf) ?_ | refine GL.fieldAddrF I0.mono (o := 0) rfl rfl (by conv => lhs; whnf) ?_
  first | refine GL.load I0.mono rfl rfl rfl rfl (by simp) rfl rfl ?_ | refine GL.loadF I0.mono rfl rfl (em_get (by omega)) rfl ?_
  first | refine GL.lenF I0.mono rfl rfl (em_len _ _) ?_ | refine GL.lenO I0.mono rfl rfl rfl rfl ?_ | refine GL.lenN I0.mono rfl rfl ?_
  refine GL.call0 I0.mono rfl (Frz.aggc (by first | exact Frz.pure rfl | exact Frz.pures rfl | exact Frz.nils | exact Frz.whole rfl rfl rfl rfl (by first | exact em_len _ _ | (rw [em_len]; omega)) | exact (Frz.aggc (by first | exact Frz.pure rfl | exact Frz.nils | exact Frz.whole rfl rfl rfl rfl (by first | exact em_len _ _ | (rw [em_len]; omega))) (Frz.aggc (by first | exact Frz.pure rfl | exact Frz.nils | exact Frz.whole rfl rfl rfl rfl (by first | exact em_len _ _ | (rw [em_len]; omega))) (Frz.aggc (by first | exact Frz.pure rfl | exact Frz.nils | exact Frz.whole rfl rfl rfl rfl (by first | exact em_len _ _ | (rw [em_len]; omega))) (Frz.aggc (by first | exact Frz.pure rfl | exact Frz.nils | exact Frz.whole rfl rfl rfl rfl (by first | exact em_len _ _ | (rw [em_len]; omega))) Frz.aggn))))) (Frz.aggc (by first | exact Frz.pure rfl | exact Frz.pures rfl | exact Frz.nils | exact Frz.whole rfl rfl rfl rfl (by first | exact em_len _ _ | (rw [em_len]; omega)) | exact (Frz.aggc (by first | exact Frz.pure rfl | exact Frz.nils | exact Frz.whole rfl rfl rfl rfl (by first | exact em_len _ _ | (rw [em_len]; omega))) (Frz.aggc (by first | exact Frz.pure rfl | exact Frz.nils | exact Frz.whole rfl rfl rfl rfl (by first | exact em_len _ _ | (rw [em_len]; omega))) (Frz.aggc (by first | exact Frz.pure rfl | exact Frz.nils | exact Frz.whole rfl rfl rfl rfl (by first | exact em_len _ _ | (rw [em_len]; omega))) (Frz.aggc (by first | exact Frz.pure rfl | exact Frz.nils | exact Frz.whole rfl rfl rfl rfl (by first | exact em_len _ _ | (rw [em_len]; omega))) Frz.aggn))))) (Frz.aggn))) ((hc ▸ within_ok _ _ (by have := hb.sq.cars1; omega))) rfl rfl (fun _ => rfl) ?_
  refine GL.assign I0.mono (by conv => lhs; whnf) ?_
  refine GL.doneF ?_
  refine goOn ?_
  refine Wp.seqI ?_
  refine Wp.regI I0.mono ?_
  first | refine GL.loadA I0.mono (n := 4) rfl rfl rfl rfl (by simp) rfl rfl (Nat.le_of_ble_eq_true rfl) (by first | (conv => lhs; simp only [List.take_succ_cons, List.take_zero, List.drop_succ_cons, List.drop_zero, List.nil_append, List.cons_append, List.drop_nil, List.append_nil, List.take_nil, List.set_cons_zero, List.set_cons_succ, Nat.zero_add, ni, nr, nc, ns, np, ic, nt, ei, cellsL]) | rfl) ?_ | refine GL.loadFA I0.mono (n := 4) rfl rfl (em_get (by omega)) rfl (Nat.le_of_ble_eq_true rfl) (by first | (conv => lhs; simp only [List.take_succ_cons, List.take_zero, List.drop_succ_cons, List.drop_zero, List.nil_append, List.cons_append, List.drop_nil, List.append_nil, List.take_nil, List.set_cons_zero, List.set_cons_succ, Nat.zero_add, ni, nr, nc, ns, np, ic, nt, ei, cellsL]) | rfl) ?_
  refine GL.move I0.mono (by conv => lhs; whnf) ?_
  refine GL.call0 I0.mono rfl (Frz.aggc (by first | exact Frz.pure rfl | exact Frz.pures rfl | exact Frz.nils | exact Frz.whole rfl rfl rfl rfl (by first | exact em_len _ _ | (rw [em_len]; omega)) | exact (Frz.aggc (by first | exact Frz.pure rfl | exact Frz.nils | exact Frz.whole rfl rfl rfl rfl (by first | exact em_len _ _ | (rw [em_len]; omega))) (Frz.aggc (by first | exact Frz.pure rfl | exact Frz.nils | exact Frz.whole rfl rfl rfl rfl (by first | exact em_len _ _ | (rw [em_len]; omega))) (Frz.aggc (by first | exact Frz.pure rfl | exact Frz.nils | exact Frz.whole rfl rfl rfl rfl (by first | exact em_len _ _ | (rw [em_len]; omega))) (Frz.aggc (by first | exact Frz.pure rfl | exact Frz.nils | exact Frz.whole rfl rfl rfl rfl (by first | exact em_len _ _ | (rw [em_len]; omega))) Frz.aggn))))) (Frz.aggc (by first | exact Frz.pure rfl | exact Frz.pures rfl | exact Frz.nils | exact Frz.whole rfl rfl rfl rfl (by first | exact em_len _ _ | (rw [em_len]; omega)) | exact (Frz.aggc (by first | exact Frz.pure rfl | exact Frz.nils | exact Frz.whole rfl rfl rfl rfl (by first | exact em_len _ _ | (rw [em_len]; omega))) (Frz.aggc (by first | exact Frz.pure rfl | exact Frz.nils | exact Frz.whole rfl rfl rfl rfl (by first | exact em_len _ _ | (rw [em_len]; omega))) (Frz.aggc (by first | exact Frz.pure rfl | exact Frz.nils | exact Frz.whole rfl rfl rfl rfl (by first | exact em_len _ _ | (rw [em_len]; omega))) (Frz.aggc (by first | exact Frz.pure rfl | exact Frz.nils | exact Frz.whole rfl rfl rfl rfl (by first | exact em_len _ _ | (rw [em_len]; omega))) Frz.aggn))))) (Frz.aggn))) (hr) rfl rfl (fun _ => rfl) ?_
  refine GL.assign I0.mono (by conv => lhs; whnf) ?_
  refine GL.doneF ?_
  refine goOn ?_
  refine Wp.seqI ?_
  refine Wp.regI I0.mono ?_
  first | refine GL.loadA I0.mono (n := 4) rfl rfl rfl rfl (by simp) rfl rfl (Nat.le_of_ble_eq_true rfl) (by first | (conv => lhs; simp only [List.take_succ_cons, List.take_zero, List.drop_succ_cons, List.drop_zero, List.nil_append, List.cons_append, List.drop_nil, List.append_nil, List.take_nil, List.set_cons_zero, List.set_cons_succ, Nat.zero_add, ni, nr, nc, ns, np, ic, nt, ei, cellsL]) | rfl) ?_ | refine GL.loadFA I0.mono (n := 4) rfl rfl (em_get (by omega)) rfl (Nat.le_of_ble_eq_true rfl) (by first | (conv => lhs; simp only [List.take_succ_cons, List.take_zero, List.drop_succ_cons, List.drop_zero, List.nil_append, List.cons_append, List.drop_nil, List.append_nil, List.take_nil, List.set_cons_zero, List.set_cons_succ, Nat.zero_add, ni, nr, nc, ns, np, ic, nt, ei, cellsL]) | rfl) ?_
  refine GL.move I0.mono (by conv => lhs; whnf) ?_
  refine GL.move I0.mono (by conv => lhs; whnf) ?_
  refine GL.call0 I0.mono rfl (Frz.aggc (by first | exact Frz.pure rfl | exact Frz.pures rfl | exact Frz.nils | exact Frz.whole rfl rfl rfl rfl (by first | exact em_len _ _ | (rw [em_len]; omega)) | exact (Frz.aggc (by first | exact Frz.pure rfl | exact Frz.nils | exact Frz.whole rfl rfl rfl rfl (by first | exact em_len _ _ | (rw [em_len]; omega))) (Frz.aggc (by first | exact Frz.pure rfl | exact Frz.nils | exact Frz.whole rfl rfl rfl rfl (by first | exact em_len _ _ | (rw [em_len]; omega))) (Frz.aggc (by first | exact Frz.pure rfl | exact Frz.nils | exact Frz.whole rfl rfl rfl rfl (by first | exact em_len _ _ | (rw [em_len]; omega))) (Frz.aggc (by first | exact Frz.pure rfl | exact Frz.nils | exact Frz.whole rfl rfl rfl rfl (by first | exact em_len _ _ | (rw [em_len]; omega))) Frz.aggn))))) (Frz.aggc (by first | exact Frz.pure rfl | exact Frz.pures rfl | exact Frz.nils | exact Frz.whole rfl rfl rfl rfl (by first | exact em_len _ _ | (rw [em_len]; omega)) | exact (Frz.aggc (by first | exact Frz.pure rfl | exact Frz.nils | exact Frz.whole rfl rfl rfl rfl (by first | exact em_len _ _ | (rw [em_len]; omega))) (Frz.aggc (by first | exact Frz.pure rfl | exact Frz.nils | exact Frz.whole rfl rfl rfl rfl (by first | exact em_len _ _ | (rw [em_len]; omega))) (Frz.aggc (by first | exact Frz.pure rfl | exact Frz.nils | exact Frz.whole rfl rfl rfl rfl (by first | exact em_len _ _ | (rw [em_len]; omega))) (Frz.aggc (by first | exact Frz.pure rfl | exact Frz.nils | exact Frz.whole rfl rfl rfl rfl (by first | exact em_len _ _ | (rw [em_len]; omega))) Frz.aggn))))) (Frz.aggc (by first | exact Frz.pure rfl | exact Frz.pures rfl | exact Frz.nils | exact Frz.whole rfl rfl rfl rfl (by first | exact em_len _ _ | (rw [em_len]; omega)) | exact (Frz.aggc (by first | exact Frz.pure rfl | exact Frz.nils | exact Frz.whole rfl rfl rfl rfl (by first | exact em_len _ _ | (rw [em_len]; omega))) (Frz.aggc (by first | exact Frz.pure rfl | exact Frz.nils | exact Frz.whole rfl rfl rfl rfl (by first | exact em_len _ _ | (rw [em_len]; omega))) (Frz.aggc (by first | exact Frz.pure rfl | exact Frz.nils | exact Frz.whole rfl rfl rfl rfl (by first | exact em_len _ _ | (rw [em_len]; omega))) (Frz.aggc (by first | exact Frz.pure rfl | exact Frz.nils | exact Frz.whole rfl rfl rfl rfl (by first | exact em_len _ _ | (rw [em_len]; omega))) Frz.aggn))))) (Frz.aggn)))) (he) rfl rfl (fun _ => rfl) ?_
  refine GL.move I0.mono (by conv => lhs; whnf) ?_
  refine GL.extract I0.mono rfl rfl ?_
  refine GL.extract I0.mono rfl rfl ?_
  refine GL.alloc I0.mono (cs := [LV.nils, LV.nils, LV.int .i64 0, LV.int .i64 0]) rfl rfl ?_
  intro g9
  refine GL.store I0.mono (n := 4) rfl rfl rfl rfl rfl rfl rfl rfl rfl rfl (Nat.le_of_ble_eq_true rfl) (by first | (conv => lhs; simp only [List.take_succ_cons, List.take_zero, List.drop_succ_cons, List.drop_zero, List.nil_append, List.cons_append, List.drop_nil, List.append_nil, List.take_nil, List.set_cons_zero, List.set_cons_succ, Nat.zero_add, ni, nr, nc, ns, np, ic, nt, ei, cellsL]) | rfl) (by first | (conv => lhs; simp only [List.take_succ_cons, List.take_zero, List.drop_succ_cons, List.drop_zero, List.nil_append, List.cons_append, List.drop_nil, List.append_nil, List.take_nil, List.set_cons_zero, List.set_cons_succ, Nat.zero_add, ni, nr, nc, ns, np, ic, nt, ei, cellsL]) | rfl) ?_
  refine GL.assign I0.mono (by conv => lhs; whnf) ?_
  refine GL.doneF ?_
  refine goOn ?_
  refine Wp.seqI ?_
  refine Wp.seqI ?_
  refine Wp.regI I0.mono ?_
  refine GL.move I0.mono (by conv => lhs; whnf) ?_
  refine GL.un I0.mono rfl ?_
  refine GL.doneF ?_
  refine goOn ?_
  refine Wp.condI rfl (fun h40 => ?_) (fun h40 => ?_)
  · first | replace h40 := of_decide_eq_true h40 | replace h40 := bne_true h40 | skip
    refine Wp.seqI ?_
    refine Wp.regI I0.mono ?_
    refine GL.call0 I0.mono rfl (Frz.aggn) (wakes_ok) rfl rfl (fun _ => rfl) ?_
    refine GL.assign I0.mono (by conv => lhs; whnf) ?_
    refine GL.doneF ?_
    refine goOn ?_
    refine Wp.retI ?_
    refine thenX.ret ?_
    refine RetX.ret ?_
    refine ⟨_, _, _, _, .cons (.tmp rfl) .nil, .frz (.pure rfl), List.nodup_nil, by simp, ?_⟩
    rfl
  · first | replace h40 := of_decide_eq_false h40 | replace h40 := bne_false h40 | skip
    have hci := within_in (a := n) (n := I.cars.length) (by have := hb.sq.cars0; omega)
    rw [hc] at hci
    have hD := h1 (nb_t' h40)
    have hl1 := hD.len1
    have ho := h2 (nb_t' h40)
    have hS := hb.sq.stops
    have hN := hb.sq.high
    refine Wp.skipI ?_
    refine goOn ?_
    refine Wp.seqI ?_
    refine Wp.regI I0.mono ?_
    refine GL.makeMap I0.mono ?_
    intro g42
    refine GL.assign I0.mono (by conv => lhs; whnf) ?_
    refine GL.doneF ?_
    refine goOn ?_
    refine Wp.seqI ?_
    refine Wp.seqI ?_
    refine Wp.regI I0.mono ?_
    refine GL.move I0.mono (by conv => lhs; whnf) ?_
    first | refine GL.lenF I0.mono rfl rfl (em_len _ _) ?_ | refine GL.lenO I0.mono rfl rfl rfl rfl ?_ | refine GL.lenN I0.mono rfl rfl ?_
    refine GL.move I0.mono (by conv => lhs; whnf) ?_
    refine GL.doneF ?_
    refine goOn ?_
    refine Wp.blockI ?_
    refine Wp.loopI I0.mono (α := Nat) (fun k st => (k ≤ r.length) ∧ ∃ m0, st = ⟨(updS (updS (updS (updS (updS (updS (updS (fun _ => LV.undef) 7 (.ref 448 g7 0 0)) 8 (.sl (em ni r))) 9 (.ref 576 g9 0 0)) 11 (.mref 2688 g42)) 43 (.sl (em ni r))) 44 (.int .i64 (r.length : Int))) 45 (.int .i64 (k : Int))), effM m0 [(448, ⟨g7, false, .var, 4, [ic I]⟩), (576, ⟨g9, false, .var, 4, [nt T]⟩), (2688, ⟨g42, false, .mp, 2, ents 1 (r.take k)⟩)]⟩) (fun k => r.length - k) 0 ⟨_, (LessS.weak (LessS.upd (LessS.upd (LessS.upd (LessS.upd (LessS.upd (LessS.upd (LessS.upd (LessS.nil _) rfl) rfl) rfl) rfl) rfl) rfl) rfl) _), (Nat.zero_le _), _, (congrArg (St.mk _) (effM_eq (Has.cons rfl (Has.cons rfl (Has.cons rfl Has.nil)))).symm)⟩ ?_
    rintro k _ ⟨hi, m0, rfl⟩
    refine Wp.seqI ?_
    refine Wp.regI I0.mono ?_
    refine GL.bin I0.mono rfl ?_
    refine GL.doneF ?_
    refine goOn ?_
    refine Wp.seqI ?_
    refine Wp.condI rfl (fun h46 => ?_) (fun h46 => ?_)
    · first | replace h46 := of_decide_eq_true h46 | replace h46 := bne_true h46 | skip
      refine Wp.skipI ?_
      refine goOn ?_
      refine Wp.seqI ?_
      refine Wp.blockI ?_
      refine Wp.seqI ?_
      refine Wp.regI I0.mono ?_
      refine GL.move I0.mono (by conv => lhs; whnf) ?_
      first | refine GL.indexAddrF I0.mono (sz := 1) rfl rfl rfl rfl (by omega) (by first | omega | (rw [em_len]; omega)) (by intro e he; obtain ⟨a, -, rfl⟩ := List.mem_map.1 he; rfl) (by first | with_reducible exact Int.toNat_natCast _ | rfl) ?_ | refine GL.indexAddr I0.mono (sz := 1) rfl rfl rfl rfl rfl rfl rfl rfl (by omega) (by first | omega | (rw [em_len]; omega)) (by first | (conv => lhs; simp only [Nat.zero_add, Int.toNat_natCast]) | rfl) ?_
      first | refine GL.load I0.mono rfl rfl rfl rfl (by simp) rfl rfl ?_ | refine GL.loadF I0.mono rfl rfl (em_get (by omega)) rfl ?_
      refine GL.assign I0.mono (by conv => lhs; whnf) ?_
      refine GL.assign I0.mono (by conv => lhs; whnf) ?_
      refine GL.doneF ?_
      refine goOn ?_
      refine Wp.seqI ?_
      refine Wp.seqI ?_
      refine Wp.regI I0.mono ?_
      refine GL.move I0.mono (by conv => lhs; whnf) ?_
      refine GL.move I0.mono (by conv => lhs; whnf) ?_
      refine GL.look1 I0.mono rfl rfl rfl rfl rfl rfl rfl rfl rfl ?_
      refine GL.bin I0.mono rfl ?_
      refine GL.doneF ?_
      refine goOn ?_
      refine Wp.condI rfl (fun h53 => ?_) (fun h53 => ?_)
      · first | replace h53 := of_decide_eq_true h53 | replace h53 := bne_true h53 | skip
        exact absurd h53 (by have := has_false (order_dist ho (show k < r.length by omega)); unfold Mv.look; rw [if_pos this]; decide)
      · first | replace h53 := of_decide_eq_false h53 | replace h53 := bne_false h53 | skip
        refine Wp.skipI ?_
        refine goOn ?_
        refine Wp.regI I0.mono ?_
        refine GL.move I0.mono (by conv => lhs; whnf) ?_
        refine GL.move I0.mono (by conv => lhs; whnf) ?_
        refine GL.move I0.mono (by conv => lhs; whnf) ?_
        first | refine GL.addR I0.mono rfl rfl (by first | omega | assumption) ?_ | refine GL.bin I0.mono rfl ?_
        refine GL.mapPut I0.mono rfl rfl rfl rfl rfl rfl rfl rfl rfl rfl (has_false (order_dist ho (show k < r.length by omega))) (by rw [List.length_take]; omega) ?_
        rw [take_snoc (show k < r.length by omega)]
        refine GL.doneF ?_
        refine blockX.normal ?_
        refine goOn ?_
        refine Wp.regI I0.mono ?_
        first | refine GL.addR I0.mono rfl rfl (by first | omega | assumption) ?_ | refine GL.bin I0.mono rfl ?_
        refine GL.move I0.mono (by conv => lhs; whnf) ?_
        refine GL.doneF ?_
        refine ⟨k + 1, (by dsimp only; omega), _, (LessS.weak (LessS.upd (LessS.upd (LessS.upd (LessS.upd (LessS.upd (LessS.upd (LessS.upd (LessS.nil _) rfl) rfl) rfl) rfl) rfl) rfl) rfl) _), (by omega), _, (congrArg (St.mk _) (effM_eq (Has.cons rfl (Has.cons rfl (Has.cons rfl Has.nil)))).symm)⟩
    · first | replace h46 := of_decide_eq_false h46 | replace h46 := bne_false h46 | skip
      obtain rfl : k = r.length := by omega
      have ht : r.take r.length = r := List.take_length
      rw [ht]
      refine Wp.exitI ?_
      refine thenX.exit ?_
      refine thenX.exit ?_
      refine blockX.out ?_
      refine goOn ?_
      refine Wp.seqI ?_
      refine Wp.regI I0.mono ?_
      refine GL.assign I0.mono (by conv => lhs; whnf) ?_
      refine GL.doneF ?_
      refine goOn ?_
      refine Wp.seqI ?_
      refine Wp.seqI ?_
      refine Wp.regI I0.mono ?_
      refine GL.move I0.mono (by conv => lhs; whnf) ?_
      first | refine GL.lenF I0.mono rfl rfl (em_len _ _) ?_ | refine GL.lenO I0.mono rfl rfl rfl rfl ?_ | refine GL.lenN I0.mono rfl rfl ?_
      refine GL.move I0.mono (by conv => lhs; whnf) ?_
      refine GL.doneF ?_
      refine goOn ?_
      refine Wp.blockI ?_
      refine Wp.loopI I0.mono (α := Nat) (fun k st => (k ≤ r.length) ∧ ∃ m0, st = ⟨(updS (updS (updS (updS (updS (updS (updS (updS (fun _ => LV.undef) 7 (.ref 448 g7 0 0)) 8 (.sl (em ni r))) 9 (.ref 576 g9 0 0)) 11 (.mref 2688 g42)) 14 (.int .i64 (ld I 0 (r.take k)))) 59 (.sl (em ni r))) 60 (.int .i64 (r.length : Int))) 61 (.int .i64 (k : Int))), effM m0 [(448, ⟨g7, false, .var, 4, [ic I]⟩), (576, ⟨g9, false, .var, 4, [nt T]⟩), (2688, ⟨g42, false, .mp, 2, ents 1 r⟩)]⟩) (fun k => r.length - k) 0 ⟨_, (LessS.weak (LessS.upd (LessS.upd (LessS.upd (LessS.upd (LessS.upd (LessS.upd (LessS.upd (LessS.upd (LessS.nil _) rfl) rfl) rfl) rfl) rfl) rfl) rfl) rfl) _), (Nat.zero_le _), _, (congrArg (St.mk _) (effM_eq (Has.cons rfl (Has.cons rfl (Has.cons rfl Has.nil)))).symm)⟩ ?_
      rintro k _ ⟨hi, m0, rfl⟩
      refine Wp.seqI ?_
      refine Wp.regI I0.mono ?_
      refine GL.bin I0.mono rfl ?_
      refine GL.doneF ?_
      refine goOn ?_
      refine Wp.seqI ?_
      refine Wp.condI rfl (fun h62 => ?_) (fun h62 => ?_)
      · first | replace h62 := of_decide_eq_true h62 | replace h62 := bne_true h62 | skip
        obtain ⟨d1, d2, d3, d4, d5, d6, d7, d8, d9, d10, d11, d12, d13, d14, d15, d16, d17, d18, d19, d20, d21, d22, d23, d24, d25⟩ := hD.at' k (by omega)
        obtain ⟨s1, s2, s3, s4, s5, s6, s7⟩ := d25
        refine Wp.skipI ?_
        refine goOn ?_
        refine Wp.seqI ?_
        refine Wp.blockI ?_
        refine Wp.seqI ?_
        refine Wp.regI I0.mono ?_
        first | refine GL.indexAddrF I0.mono (sz := 1) rfl rfl rfl rfl (by omega) (by first | omega | (rw [em_len]; omega)) (by intro e he; obtain ⟨a, -, rfl⟩ := List.mem_map.1 he; rfl) (by first | with_reducible exact Int.toNat_natCast _ | rfl) ?_ | refine GL.indexAddr I0.mono (sz := 1) rfl rfl rfl rfl rfl rfl rfl rfl (by omega) (by first | omega | (rw [em_len]; omega)) (by first | (conv => lhs; simp only [Nat.zero_add, Int.toNat_natCast]) | rfl) ?_
        first | refine GL.load I0.mono rfl rfl rfl rfl (by simp) rfl rfl ?_ | refine GL.loadF I0.mono rfl rfl (em_get (by omega)) rfl ?_
        refine GL.assign I0.mono (by conv => lhs; whnf) ?_
        refine GL.doneF ?_
        refine goOn ?_
        refine Wp.regI I0.mono ?_
        refine GL.move I0.mono (by conv => lhs; whnf) ?_
        first | refine GL.fieldAddr I0.mono (o := 1) rfl rfl rfl rfl (by conv => lhs; whnf) ?_ | refine GL.fieldAddrF I0.mono (o := 1) rfl rfl (by conv => lhs; whnf) ?_
        first | refine GL.load I0.mono rfl rfl rfl rfl (by simp) rfl rfl ?_ | refine GL.loadF I0.mono rfl rfl (em_get (by omega)) rfl ?_
        refine GL.move I0.mono (by conv => lhs; whnf) ?_
        first | refine GL.subR I0.mono rfl rfl (by first | omega | assumption) ?_ | refine GL.bin I0.mono rfl ?_
        first | refine GL.indexAddrF I0.mono (sz := 4) rfl rfl rfl rfl (by omega) (by first | omega | (rw [em_len]; omega)) (by intro e he; obtain ⟨a, -, rfl⟩ := List.mem_map.1 he; rfl) (by first | with_reducible exact Int.toNat_natCast _ | rfl) ?_ | refine GL.indexAddr I0.mono (sz := 4) rfl rfl rfl rfl rfl rfl rfl rfl (by omega) (by first | omega | (rw [em_len]; omega)) (by first | (conv => lhs; simp only [Nat.zero_add, Int.toNat_natCast]) | rfl) ?_
        first | refine GL.fieldAddr I0.mono (o := 0) rfl rfl rfl rfl (by conv => lhs; whnf) ?_ | refine GL.fieldAddrF I0.mono (o := 0) rfl rfl (by conv => lhs; whnf) ?_
        first | refine GL.load I0.mono rfl rfl rfl rfl (by simp) rfl rfl ?_ | refine GL.loadF I0.mono rfl rfl (em_get (by omega)) rfl ?_
        first | refine GL.addR I0.mono rfl rfl (by first | omega | assumption) ?_ | refine GL.bin I0.mono rfl ?_
        refine GL.assign I0.mono (by conv => lhs; whnf) ?_
        refine GL.doneF ?_
        refine blockX.normal ?_
        refine goOn ?_
        refine Wp.regI I0.mono ?_
        first | refine GL.addR I0.mono rfl rfl (by first | omega | assumption) ?_ | refine GL.bin I0.mono rfl ?_
        refine GL.move I0.mono (by conv => lhs; whnf) ?_
        refine GL.doneF ?_
        refine ⟨k + 1, (by dsimp only; omega), _, (LessS.weak (LessS.upd (LessS.upd (LessS.upd (LessS.upd (LessS.upd (LessS.upd (LessS.upd (LessS.upd (LessS.nil _) rfl) rfl) rfl) rfl) (congrArg (LV.int .i64) d15.symm)) rfl) rfl) rfl) _), (by omega), _, (congrArg (St.mk _) (effM_eq (Has.cons rfl (Has.cons rfl (Has.cons rfl Has.nil)))).symm)⟩
      · first | replace h62 := of_decide_eq_false h62 | replace h62 := bne_false h62 | skip
        obtain rfl : k = r.length := by omega
        have hld : 0 ≤ ld I 0 r ∧ ld I 0 r ≤ 1000 := ld_all hD (hb.car c.toNat (by omega))
        rw [List.take_length]
        refine Wp.exitI ?_
        refine thenX.exit ?_
        refine thenX.exit ?_
        refine blockX.out ?_
        refine goOn ?_
        refine Wp.seqI ?_
        refine Wp.seqI ?_
        refine Wp.regI I0.mono ?_
        first | refine GL.fieldAddr I0.mono (o := 2) rfl rfl rfl rfl (by conv => lhs; whnf) ?_ | refine GL.fieldAddrF I0.mono (o := 2) rfl rfl (by conv => lhs; whnf) ?_
        first | refine GL.load I0.mono rfl rfl rfl rfl (by simp) rfl rfl ?_ | refine GL.loadF I0.mono rfl rfl (em_get (by omega)) rfl ?_
        first | refine GL.lenF I0.mono rfl rfl (em_len _ _) ?_ | refine GL.lenO I0.mono rfl rfl rfl rfl ?_ | refine GL.lenN I0.mono rfl rfl ?_
        refine GL.move I0.mono (by conv => lhs; whnf) ?_
        refine GL.doneF ?_
        refine goOn ?_
        refine Wp.blockI ?_
        refine Wp.loopI I0.mono (α := Nat) (fun q st => (q ≤ I.pairs.length) ∧ ∃ m0, st = ⟨(updS (updS (updS (updS (updS (updS (updS (updS (fun _ => LV.undef) 7 (.ref 448 g7 0 0)) 8 (.sl (em ni r))) 9 (.ref 576 g9 0 0)) 11 (.mref 2688 g42)) 14 (.int .i64 (ld I 0 r))) 76 (.sl (em np I.pairs))) 77 (.int .i64 (I.pairs.length : Int))) 78 (.int .i64 (q : Int))), effM m0 [(448, ⟨g7, false, .var, 4, [ic I]⟩), (576, ⟨g9, false, .var, 4, [nt T]⟩), (2688, ⟨g42, false, .mp, 2, ents 1 r⟩)]⟩) (fun q => I.pairs.length - q) 0 ⟨_, (LessS.weak (LessS.upd (LessS.upd (LessS.upd (LessS.upd (LessS.upd (LessS.upd (LessS.upd (LessS.upd (LessS.nil _) rfl) rfl) rfl) rfl) rfl) rfl) rfl) rfl) _), (Nat.zero_le _), _, (congrArg (St.mk _) (effM_eq (Has.cons rfl (Has.cons rfl (Has.cons rfl Has.nil)))).symm)⟩ ?_
        rintro q _ ⟨hq, m0, rfl⟩
        have hpl := hb.sq.short.pairs
        unfold Short at hpl
        refine Wp.seqI ?_
        refine Wp.regI I0.mono ?_
        refine GL.bin I0.mono rfl ?_
        refine GL.doneF ?_
        refine goOn ?_
        refine Wp.seqI ?_
        refine Wp.condI rfl (fun h79 => ?_) (fun h79 => ?_)
        · first | replace h79 := of_decide_eq_true h79 | replace h79 := bne_true h79 | skip
          have hP := look1_pok (order_pok hp ho (pairs_mem (i := I) (k := q) (by omega)))
          obtain ⟨p1, p2, p3⟩ := hd _ (pairs_mem (i := I) (k := q) (by omega))
          have p4 := isStop_le p1
          have p5 := isStop_le p2
          obtain ⟨s1, s2, s3, s4, s5, s6, s7⟩ := hb.at p1
          obtain ⟨u1, u2, u3, u4, u5, u6, u7⟩ := hb.at p2
          have hsum := p3
          unfold stopAt at hsum s1 s2 u1 u2
          refine Wp.skipI ?_
          refine goOn ?_
          refine Wp.seqI ?_
          refine Wp.blockI ?_
          refine Wp.seqI ?_
          refine Wp.regI I0.mono ?_
          first | refine GL.indexAddrF I0.mono (sz := 2) rfl rfl rfl rfl (by omega) (by first | omega | (rw [em_len]; omega)) (by intro e he; obtain ⟨a, -, rfl⟩ := List.mem_map.1 he; rfl) (by first | with_reducible exact Int.toNat_natCast _ | rfl) ?_ | refine GL.indexAddr I0.mono (sz := 2) rfl rfl rfl rfl rfl rfl rfl rfl (by omega) (by first | omega | (rw [em_len]; omega)) (by first | (conv => lhs; simp only [Nat.zero_add, Int.toNat_natCast]) | rfl) ?_
          first | refine GL.loadA I0.mono (n := 2) rfl rfl rfl rfl (by simp) rfl rfl (Nat.le_of_ble_eq_true rfl) (by first | (conv => lhs; simp only [List.take_succ_cons, List.take_zero, List.drop_succ_cons, List.drop_zero, List.nil_append, List.cons_append, List.drop_nil, List.append_nil, List.take_nil, List.set_cons_zero, List.set_cons_succ, Nat.zero_add, ni, nr, nc, ns, np, ic, nt, ei, cellsL]) | rfl) ?_ | refine GL.loadFA I0.mono (n := 2) rfl rfl (em_get (by omega)) rfl (Nat.le_of_ble_eq_true rfl) (by first | (conv => lhs; simp only [List.take_succ_cons, List.take_zero, List.drop_succ_cons, List.drop_zero, List.nil_append, List.cons_append, List.drop_nil, List.append_nil, List.take_nil, List.set_cons_zero, List.set_cons_succ, Nat.zero_add, ni, nr, nc, ns, np, ic, nt, ei, cellsL]) | rfl) ?_
          refine GL.alloc I0.mono (cs := [LV.int .i64 0, LV.int .i64 0]) rfl rfl ?_
          intro g18
          refine GL.store I0.mono (n := 2) rfl rfl rfl rfl rfl rfl rfl rfl rfl rfl (Nat.le_of_ble_eq_true rfl) (by first | (conv => lhs; simp only [List.take_succ_cons, List.take_zero, List.drop_succ_cons, List.drop_zero, List.nil_append, List.cons_append, List.drop_nil, List.append_nil, List.take_nil, List.set_cons_zero, List.set_cons_succ, Nat.zero_add, ni, nr, nc, ns, np, ic, nt, ei, cellsL]) | rfl) (by first | (conv => lhs; simp only [List.take_succ_cons, List.take_zero, List.drop_succ_cons, List.drop_zero, List.nil_append, List.cons_append, List.drop_nil, List.append_nil, List.take_nil, List.set_cons_zero, List.set_cons_succ, Nat.zero_add, ni, nr, nc, ns, np, ic, nt, ei, cellsL]) | rfl) ?_
          refine GL.doneF ?_
          refine goOn ?_
          refine Wp.seqI ?_
          refine Wp.regD ?_
          refine GL.move I0.mono (by conv => lhs; whnf) ?_
          first | refine GL.indexAddrA I0.mono (sz := 1) (len := 2) rfl rfl rfl rfl rfl rfl (by decide) (by decide) (by conv => lhs; whnf) ?_ | refine GL.indexAddrFA I0.mono (sz := 1) (len := 2) rfl rfl rfl rfl (by decide) (by decide) (by conv => lhs; whnf) ?_
          first | refine GL.load I0.mono rfl rfl rfl rfl (by simp) rfl rfl ?_ | refine GL.loadF I0.mono rfl rfl (em_get (by omega)) rfl ?_
          refine GL.look1 I0.mono rfl rfl rfl rfl rfl rfl rfl rfl rfl ?_
          refine GL.move I0.mono (by conv => lhs; whnf) ?_
          first | refine GL.indexAddrA I0.mono (sz := 1) (len := 2) rfl rfl rfl rfl rfl rfl (by decide) (by decide) (by conv => lhs; whnf) ?_ | refine GL.indexAddrFA I0.mono (sz := 1) (len := 2) rfl rfl rfl rfl (by decide) (by decide) (by conv => lhs; whnf) ?_
          first | refine GL.load I0.mono rfl rfl rfl rfl (by simp) rfl rfl ?_ | refine GL.loadF I0.mono rfl rfl (em_get (by omega)) rfl ?_
          refine GL.look1 I0.mono rfl rfl rfl rfl rfl rfl rfl rfl rfl ?_
          refine GL.assign I0.mono (by conv => lhs; whnf) ?_
          refine GL.assign I0.mono (by conv => lhs; whnf) ?_
          refine GL.doneT (by kernel_rfl) ?_
          refine goOn ?_
          refine Wp.seqI ?_
          refine Wp.seqI ?_
          refine Wp.regI I0.mono ?_
          refine GL.move I0.mono (by conv => lhs; whnf) ?_
          refine GL.bin I0.mono rfl ?_
          refine GL.move I0.mono (by conv => lhs; whnf) ?_
          refine GL.bin I0.mono rfl ?_
          refine GL.bin I0.mono rfl ?_
          refine GL.move I0.mono (by conv => lhs; whnf) ?_
          refine GL.splitAt 95 rfl (fun h95 => ?_) (fun h95 => ?_)
          · first | rw [h95] | skip
            skip
            (rw [neq_dec hP.2] at h95; cases h95)
          · first | rw [h95] | skip
            skip
            refine GL.guardT rfl ?_
            refine GL.move I0.mono (by conv => lhs; whnf) ?_
            refine GL.guardT rfl ?_
            refine GL.move I0.mono (by conv => lhs; whnf) ?_
            refine GL.guardT rfl ?_
            refine GL.bin I0.mono rfl ?_
            refine GL.pick I0.mono rfl (by conv => lhs; whnf) ?_
            refine GL.doneF ?_
            refine goOn ?_
            refine Wp.condI rfl (fun h99 => ?_) (fun h99 => ?_)
            · first | replace h99 := of_decide_eq_true h99 | replace h99 := bne_true h99 | skip
              exact absurd h99 (by omega)
            · first | replace h99 := of_decide_eq_false h99 | replace h99 := bne_false h99 | skip
              refine Wp.skipI ?_
              refine goOn ?_
              refine Wp.seqI ?_
              refine Wp.regI I0.mono ?_
              refine GL.move I0.mono (by conv => lhs; whnf) ?_
              refine GL.bin I0.mono rfl ?_
              refine GL.doneF ?_
              refine goOn ?_
              refine Wp.condI rfl (fun h101 => ?_) (fun h101 => ?_)
              · first | replace h101 := of_decide_eq_true h101 | replace h101 := bne_true h101 | skip
                refine Wp.regD ?_
                refine GL.move I0.mono (by conv => lhs; whnf) ?_
                first | refine GL.fieldAddr I0.mono (o := 1) rfl rfl rfl rfl (by conv => lhs; whnf) ?_ | refine GL.fieldAddrF I0.mono (o := 1) rfl rfl (by conv => lhs; whnf) ?_
                first | refine GL.load I0.mono rfl rfl rfl rfl (by simp) rfl rfl ?_ | refine GL.loadF I0.mono rfl rfl (em_get (by omega)) rfl ?_
                first | refine GL.indexAddrA I0.mono (sz := 1) (len := 2) rfl rfl rfl rfl rfl rfl (by decide) (by decide) (by conv => lhs; whnf) ?_ | refine GL.indexAddrFA I0.mono (sz := 1) (len := 2) rfl rfl rfl rfl (by decide) (by decide) (by conv => lhs; whnf) ?_
                first | refine GL.load I0.mono rfl rfl rfl rfl (by simp) rfl rfl ?_ | refine GL.loadF I0.mono rfl rfl (em_get (by omega)) rfl ?_
                first | refine GL.subR I0.mono rfl rfl (by first | omega | assumption) ?_ | refine GL.bin I0.mono rfl ?_
                first | refine GL.indexAddrF I0.mono (sz := 4) rfl rfl rfl rfl (by omega) (by first | omega | (rw [em_len]; omega)) (by intro e he; obtain ⟨a, -, rfl⟩ := List.mem_map.1 he; rfl) (by first | with_reducible exact Int.toNat_natCast _ | rfl) ?_ | refine GL.indexAddr I0.mono (sz := 4) rfl rfl rfl rfl rfl rfl rfl rfl (by omega) (by first | omega | (rw [em_len]; omega)) (by first | (conv => lhs; simp only [Nat.zero_add, Int.toNat_natCast]) | rfl) ?_
                first | refine GL.fieldAddr I0.mono (o := 0) rfl rfl rfl rfl (by conv => lhs; whnf) ?_ | refine GL.fieldAddrF I0.mono (o := 0) rfl rfl (by conv => lhs; whnf) ?_
                first | refine GL.load I0.mono rfl rfl rfl rfl (by simp) rfl rfl ?_ | refine GL.loadF I0.mono rfl rfl (em_get (by omega)) rfl ?_
                first | refine GL.fieldAddr I0.mono (o := 1) rfl rfl rfl rfl (by conv => lhs; whnf) ?_ | refine GL.fieldAddrF I0.mono (o := 1) rfl rfl (by conv => lhs; whnf) ?_
                first | refine GL.load I0.mono rfl rfl rfl rfl (by simp) rfl rfl ?_ | refine GL.loadF I0.mono rfl rfl (em_get (by omega)) rfl ?_
                first | refine GL.indexAddrA I0.mono (sz := 1) (len := 2) rfl rfl rfl rfl rfl rfl (by decide) (by decide) (by conv => lhs; whnf) ?_ | refine GL.indexAddrFA I0.mono (sz := 1) (len := 2) rfl rfl rfl rfl (by decide) (by decide) (by conv => lhs; whnf) ?_
                first | refine GL.load I0.mono rfl rfl rfl rfl (by simp) rfl rfl ?_ | refine GL.loadF I0.mono rfl rfl (em_get (by omega)) rfl ?_
                first | refine GL.subR I0.mono rfl rfl (by first | omega | assumption) ?_ | refine GL.bin I0.mono rfl ?_
                first | refine GL.indexAddrF I0.mono (sz := 4) rfl rfl rfl rfl (by omega) (by first | omega | (rw [em_len]; omega)) (by intro e he; obtain ⟨a, -, rfl⟩ := List.mem_map.1 he; rfl) (by first | with_reducible exact Int.toNat_natCast _ | rfl) ?_ | refine GL.indexAddr I0.mono (sz := 4) rfl rfl rfl rfl rfl rfl rfl rfl (by omega) (by first | omega | (rw [em_len]; omega)) (by first | (conv => lhs; simp only [Nat.zero_add, Int.toNat_natCast]) | rfl) ?_
                first | refine GL.fieldAddr I0.mono (o := 0) rfl rfl rfl rfl (by conv => lhs; whnf) ?_ | refine GL.fieldAddrF I0.mono (o := 0) rfl rfl (by conv => lhs; whnf) ?_
                first | refine GL.load I0.mono rfl rfl rfl rfl (by simp) rfl rfl ?_ | refine GL.loadF I0.mono rfl rfl (em_get (by omega)) rfl ?_
                first | refine GL.addR I0.mono rfl rfl (by first | omega | assumption) ?_ | refine GL.bin I0.mono rfl ?_
                refine GL.subR I0.mono rfl rfl (by omega) ?_
                rw [hsum, Int.sub_zero]
                refine GL.assign I0.mono (by conv => lhs; whnf) ?_
                refine GL.doneT (by kernel_rfl) ?_
                refine blockX.normal ?_
                refine goOn ?_
                refine Wp.regI I0.mono ?_
                first | refine GL.addR I0.mono rfl rfl (by first | omega | assumption) ?_ | refine GL.bin I0.mono rfl ?_
                refine GL.move I0.mono (by conv => lhs; whnf) ?_
                refine GL.doneF ?_
                refine ⟨q + 1, (by dsimp only; omega), _, (LessS.weak (LessS.upd (LessS.upd (LessS.upd (LessS.upd (LessS.upd (LessS.upd (LessS.upd (LessS.upd (LessS.nil _) rfl) rfl) rfl) rfl) rfl) rfl) rfl) rfl) _), (by omega), _, (congrArg (St.mk _) (effM_eq (Has.cons rfl (Has.cons rfl (Has.cons rfl Has.nil)))).symm)⟩
              · first | replace h101 := of_decide_eq_false h101 | replace h101 := bne_false h101 | skip
                refine Wp.skipI ?_
                refine blockX.normal ?_
                refine goOn ?_
                refine Wp.regI I0.mono ?_
                first | refine GL.addR I0.mono rfl rfl (by first | omega | assumption) ?_ | refine GL.bin I0.mono rfl ?_
                refine GL.move I0.mono (by conv => lhs; whnf) ?_
                refine GL.doneF ?_
                refine ⟨q + 1, (by dsimp only; omega), _, (LessS.weak (LessS.upd (LessS.upd (LessS.upd (LessS.upd (LessS.upd (LessS.upd (LessS.upd (LessS.upd (LessS.nil _) rfl) rfl) rfl) rfl) rfl) rfl) rfl) rfl) _), (by omega), _, (congrArg (St.mk _) (effM_eq (Has.cons rfl (Has.cons rfl (Has.cons rfl Has.nil)))).symm)⟩
        · first | replace h79 := of_decide_eq_false h79 | replace h79 := bne_false h79 | skip
          refine Wp.exitI ?_
          refine thenX.exit ?_
          refine thenX.exit ?_
          refine blockX.out ?_
          refine goOn ?_
          refine Wp.seqI ?_
          refine Wp.regI I0.mono ?_
          refine GL.assign I0.mono (by conv => lhs; whnf) ?_
          refine GL.doneF ?_
          refine goOn ?_
          refine Wp.seqI ?_
          refine Wp.seqI ?_
          refine Wp.regI I0.mono ?_
          first | refine GL.fieldAddr I0.mono (o := 1) rfl rfl rfl rfl (by conv => lhs; whnf) ?_ | refine GL.fieldAddrF I0.mono (o := 1) rfl rfl (by conv => lhs; whnf) ?_
          first | refine GL.load I0.mono rfl rfl rfl rfl (by simp) rfl rfl ?_ | refine GL.loadF I0.mono rfl rfl (em_get (by omega)) rfl ?_
          first | refine GL.lenF I0.mono rfl rfl (em_len _ _) ?_ | refine GL.lenO I0.mono rfl rfl rfl rfl ?_ | refine GL.lenN I0.mono rfl rfl ?_
          refine GL.bin I0.mono rfl ?_
          refine GL.doneF ?_
          refine goOn ?_
          refine Wp.condI rfl (fun h125 => ?_) (fun h125 => ?_)
          · first | replace h125 := of_decide_eq_true h125 | replace h125 := bne_true h125 | skip
            have hll := load_last hD (by omega)
            refine Wp.regI I0.mono ?_
            first | refine GL.fieldAddr I0.mono (o := 1) rfl rfl rfl rfl (by conv => lhs; whnf) ?_ | refine GL.fieldAddrF I0.mono (o := 1) rfl rfl (by conv => lhs; whnf) ?_
            first | refine GL.load I0.mono rfl rfl rfl rfl (by simp) rfl rfl ?_ | refine GL.loadF I0.mono rfl rfl (em_get (by omega)) rfl ?_
            first | refine GL.fieldAddr I0.mono (o := 1) rfl rfl rfl rfl (by conv => lhs; whnf) ?_ | refine GL.fieldAddrF I0.mono (o := 1) rfl rfl (by conv => lhs; whnf) ?_
            first | refine GL.load I0.mono rfl rfl rfl rfl (by simp) rfl rfl ?_ | refine GL.loadF I0.mono rfl rfl (em_get (by omega)) rfl ?_
            first | refine GL.lenF I0.mono rfl rfl (em_len _ _) ?_ | refine GL.lenO I0.mono rfl rfl rfl rfl ?_ | refine GL.lenN I0.mono rfl rfl ?_
            first | refine GL.subR I0.mono rfl rfl (by first | omega | assumption) ?_ | refine GL.bin I0.mono rfl ?_
            first | refine GL.indexAddrF I0.mono (sz := 1) rfl rfl rfl rfl (by omega) (by first | omega | (rw [em_len]; omega)) (by intro e he; obtain ⟨a, -, rfl⟩ := List.mem_map.1 he; rfl) (by first | with_reducible exact Int.toNat_natCast _ | rfl) ?_ | refine GL.indexAddr I0.mono (sz := 1) rfl rfl rfl rfl rfl rfl rfl rfl (by omega) (by first | omega | (rw [em_len]; omega)) (by first | (conv => lhs; simp only [Nat.zero_add, Int.toNat_natCast]) | rfl) ?_
            first | refine GL.load I0.mono rfl rfl rfl rfl (by simp) rfl rfl ?_ | refine GL.loadF I0.mono rfl rfl (em_get (by omega)) rfl ?_
            refine GL.assign I0.mono (by conv => lhs; whnf) ?_
            refine GL.doneF ?_
            refine goOn ?_
            refine Wp.seqI ?_
            refine Wp.regI I0.mono ?_
            refine GL.move I0.mono (by conv => lhs; whnf) ?_
            refine GL.move I0.mono (by conv => lhs; whnf) ?_
            refine GL.bin I0.mono rfl ?_
            refine GL.move I0.mono (by conv => lhs; whnf) ?_
            refine GL.splitAt 137 rfl (fun h137 => ?_) (fun h137 => ?_)
            · first | rw [h137] | skip
              first | replace h137 := of_decide_eq_true h137 | replace h137 := bne_true h137 | skip
              refine GL.guardT rfl ?_
              refine GL.call0 I0.mono rfl (Frz.aggn) (wakes_ok) rfl rfl (fun _ => rfl) ?_
              refine GL.pick I0.mono rfl (by conv => lhs; whnf) ?_
              refine GL.assign I0.mono (by conv => lhs; whnf) ?_
              refine GL.doneF ?_
              refine goOn ?_
              refine Wp.retI ?_
              refine RetX.ret ?_
              refine ⟨_, _, _, _, .cons (.tmp rfl) .nil, .frz (.pure rfl), List.nodup_nil, by simp, ?_⟩
              rfl
            · first | rw [h137] | skip
              first | replace h137 := of_decide_eq_false h137 | replace h137 := bne_false h137 | skip
              exact absurd h137 (by omega)
          · first | replace h125 := of_decide_eq_false h125 | replace h125 := bne_false h125 | skip
            have hr0 := List.eq_nil_of_length_eq_zero (show r.length = 0 by omega)
            have hl0 : ld I 0 r = 0 := by rw [hr0]; rfl
            refine Wp.skipI ?_
            refine goOn ?_
            refine Wp.seqI ?_
            refine Wp.regI I0.mono ?_
            refine GL.move I0.mono (by conv => lhs; whnf) ?_
            refine GL.move I0.mono (by conv => lhs; whnf) ?_
            refine GL.bin I0.mono rfl ?_
            refine GL.move I0.mono (by conv => lhs; whnf) ?_
            refine GL.splitAt 137 rfl (fun h137 => ?_) (fun h137 => ?_)
            · first | rw [h137] | skip
              first | replace h137 := of_decide_eq_true h137 | replace h137 := bne_true h137 | skip
              refine GL.guardT rfl ?_
              refine GL.call0 I0.mono rfl (Frz.aggn) (wakes_ok) rfl rfl (fun _ => rfl) ?_
              refine GL.pick I0.mono rfl (by conv => lhs; whnf) ?_
              refine GL.assign I0.mono (by conv => lhs; whnf) ?_
              refine GL.doneF ?_
              refine goOn ?_
              refine Wp.retI ?_
              refine RetX.ret ?_
              refine ⟨_, _, _, _, .cons (.tmp rfl) .nil, .frz (.pure rfl), List.nodup_nil, by simp, ?_⟩
              rfl
            · first | rw [h137] | skip
              first | replace h137 := of_decide_eq_false h137 | replace h137 := bne_false h137 | skip
              exact absurd h137 (by omega)


theorem law_TripPairs (z0 : List Int) (h0 : Ints z0) (z1 : List Int) (h1 : Ints z1) (n : Int) : CallsV Try.prog 7 [.sl (em ni z0), .sl (em ni z1), .int .i64 n] (.bool true) := by
  have hb := inst_sb z0
  have hci := within_in (a := n) (n := (instOf z0).cars.length) (by have := hb.sq.cars0; omega)
  have hrl := row_short (instOf z0) z1
  have hor : ∀ T, eval (instOf z0) (within n (instOf z0).cars.length) (rowOf (instOf z0) z1) = some T → order (instOf z0) (rowOf (instOf z0) z1) = true := fun T h => by
    rw [eval_eq hb hci.1 hci.2] at h
    split at h
    · rename_i hh; exact hh.1
    · cases h
  refine tp_walk z0 z1 n (instOf z0) (nStops z0) hb (inst_sp z0) (inst_sd z0) (inst_ok z0 h0) (rowOf (instOf z0) z1) (row_ok (instOf z0) hb.sq.short z1 h1) hrl _ rfl _ _ (eval_ok (instOf z0) hb.sq.short _ _ (by unfold Short; omega)) (fun h => ?_) fun h => ?_
  · cases he : eval (instOf z0) (within n (instOf z0).cars.length) (rowOf (instOf z0) z1) with
    | none => rw [he] at h; cases h
    | some T => exact drv_of hb hci.1 hci.2 (by omega) he
  · cases he : eval (instOf z0) (within n (instOf z0).cars.length) (rowOf (instOf z0) z1) with
    | none => rw [he] at h; cases h
    | some T => exact hor T he

end Go.Proofs.Ytpepcfombibpeaa
