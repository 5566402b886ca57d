/- The law of what asking a table changes, walked. -/
import Derived.Test.YtpepcfombibpeaaFg
import Derived.Test.YtpepcfombibpeaaGc
import Derived.KernelRfl
set_option linter.unusedVariables false
set_option linter.unusedSimpArgs false
namespace Go.Proofs.Ytpepcfombibpeaa
open Go.Proofs Mv

set_option maxRecDepth 100000 in
set_option maxHeartbeats 4000000 in
theorem fa_walk (z0 z1 z2 : List Int) (n k s : Int) (I : Inst) (hs : I.Short) (hst : I.stops.length ≤ 100) (hcn : I.cars.length ≤ 3) (hI : CallsV Try.prog 29 [.sl (em ni z0)] (ei I)) (p r : List Int) (hp : CallsV Try.prog 30 [ei I, .sl (em ni z1)] (.sl (em ni p))) (hr : CallsV Try.prog 30 [ei I, .sl (em ni z2)] (.sl (em ni r))) (hrl : r.length ≤ 14) (c : Int) (hc : within n (I.cars.length + 1) = c) (HP HL : List Head) (TP TL : List Tail) (hNp : CallsV Try.prog 48 [ei I, .int .i64 c, .sl (em ni p)] (.ptro (tabL I c p.length HP TP))) (hNr : CallsV Try.prog 48 [ei I, .int .i64 c, .sl (em ni r)] (.ptro (tabL I c r.length HL TL))) (hH : CallsV Try.prog 38 [ei I, .int .i64 c, .sl (em ni r)] (.sl (em nh HL))) (hT : CallsV Try.prog 35 [ei I, .int .i64 c, .sl (em ni r)] (.sl (em nl TL))) (hws : 0 ≤ within s I.stops.length ∧ within s I.stops.length ≤ 100) (W : Int) (wb : Bool) (hW : CallsV Try.prog 51 [tabP I c p.length HP TP] (.tup [.int .i64 W, .bool wb])) (hask : ∀ (n : Int) (H : List Head) (T : List Tail), (∀ k s : Int, ∃ (a : Int) (b : Bool), CallsV Try.prog 53 [tabP I c n H T, .int .i64 k, .int .i64 s] (.tup [.int .i64 a, .bool b])) ∧ (∀ k : Int, ∃ (a : Int) (b : Bool), CallsV Try.prog 57 [tabP I c n H T, .int .i64 k] (.tup [.int .i64 a, .bool b])) ∧ ∀ (n2 : Int) (H2 : List Head) (T2 : List Tail) (k q : Int), ∃ (a : Int) (b : Bool), CallsV Try.prog 49 [tabP I c n H T, .int .i64 k, tabP I c n2 H2 T2, .int .i64 q] (.tup [.int .i64 a, .bool b])) (hlen : CallsV Try.prog 56 [tabP I c r.length HL TL] (.int .i64 r.length)) : CallsV Try.prog 17 [.sl (em ni z0), .sl (em ni z1), .sl (em ni z2), .int .i64 n, .int .i64 k, .int .i64 s] (.bool true) := by
  refine CallsR.intro set_sound mix Try.func17 rfl rfl (by simp [Try.f17]) (by kernel_rfl) (nb := 0) ?_
  unfold Try.f17
  refine Wp.seqI ?_
  refine Wp.regI I1.mono ?_
  refine GL.assign I1.mono (by conv => lhs; whnf) ?_
  refine GL.doneF ?_
  refine goOn ?_
  refine Wp.seqI ?_
  refine Wp.regI I1.mono ?_
  refine GL.move I1.mono (by conv => lhs; whnf) ?_
  refine GL.call0 I1.mono rfl (Frz.aggc (by exact Frz.pure rfl) (Frz.aggn)) (hI) rfl rfl (fun _ => rfl) ?_
  refine GL.alloc I1.mono (cs := [LV.nils, LV.nils, LV.nils, LV.nils]) rfl rfl ?_
  intro g13
  refine GL.storeW I1.mono (n := 4) rfl rfl rfl rfl rfl rfl rfl (by conv => lhs; whnf) rfl rfl rfl ?_
  refine GL.doneF ?_
  refine goOn ?_
  refine Wp.seqI ?_
  refine Wp.regI I1.mono ?_
  refine GL.move I1.mono (by conv => lhs; whnf) ?_
  refine GL.fieldAddr I1.mono (o := 0) rfl rfl rfl rfl (by conv => lhs; whnf) ?_
  refine GL.load I1.mono rfl rfl rfl rfl (by simp) rfl rfl ?_
  refine GL.lenF I1.mono rfl rfl (em_len _ _) ?_
  refine GL.addR I1.mono rfl rfl (by omega) ?_
  refine GL.call0 I1.mono rfl (Frz.aggc (by exact Frz.pure rfl) (Frz.aggc (by exact Frz.pure rfl) (Frz.aggn))) ((hc ▸ within_ok _ _ (by omega))) rfl rfl (fun _ => rfl) ?_
  refine GL.assign I1.mono (by conv => lhs; whnf) ?_
  refine GL.doneF ?_
  refine goOn ?_
  refine Wp.seqI ?_
  refine Wp.regI I1.mono ?_
  refine GL.loadW I1.mono (n := 4) rfl rfl rfl rfl (by simp) rfl rfl rfl ?_
  refine GL.move I1.mono (by conv => lhs; whnf) ?_
  refine GL.call0 I1.mono rfl (Frz.aggc (by exact Frz.pures rfl) (Frz.aggc (by exact Frz.pure rfl) (Frz.aggn))) (hr) rfl rfl (fun _ => rfl) ?_
  refine GL.assign I1.mono (by conv => lhs; whnf) ?_
  refine GL.doneF ?_
  refine goOn ?_
  refine Wp.seqI ?_
  refine Wp.regD ?_
  refine GL.loadW I1.mono (n := 4) rfl rfl rfl rfl (by simp) rfl rfl rfl ?_
  refine GL.move I1.mono (by conv => lhs; whnf) ?_
  refine GL.loadW I1.mono (n := 4) rfl rfl rfl rfl (by simp) rfl rfl rfl ?_
  refine GL.move I1.mono (by conv => lhs; whnf) ?_
  refine GL.call0 I1.mono rfl (Frz.aggc (by exact Frz.pures rfl) (Frz.aggc (by exact Frz.pure rfl) (Frz.aggn))) (hp) rfl rfl (fun _ => rfl) ?_
  refine GL.callN I1.mono rfl (Frz.aggc (Frz.aggc (by exact Frz.pure rfl) (Frz.aggc (by exact Frz.pure rfl) (Frz.aggc (by exact Frz.pure rfl) (Frz.aggc (by exact Frz.pure rfl) Frz.aggn)))) (Frz.aggc (Frz.pure rfl) (Frz.aggc (Frz.pure rfl) Frz.aggn))) (hNp) rfl rfl (imp_tab _ _ _ _ _ _ _) ?_
  refine GL.loadW I1.mono (n := 4) rfl rfl rfl rfl (by simp) rfl rfl rfl ?_
  refine GL.move I1.mono (by conv => lhs; whnf) ?_
  refine GL.move I1.mono (by conv => lhs; whnf) ?_
  refine GL.callN I1.mono rfl (Frz.aggc (Frz.aggc (by exact Frz.pure rfl) (Frz.aggc (by exact Frz.pure rfl) (Frz.aggc (by exact Frz.pure rfl) (Frz.aggc (by exact Frz.pure rfl) Frz.aggn)))) (Frz.aggc (Frz.pure rfl) (Frz.aggc (Frz.pure rfl) Frz.aggn))) (hNr) rfl rfl (imp_tab _ _ _ _ _ _ _) ?_
  refine GL.assign I1.mono (by conv => lhs; whnf) ?_
  refine GL.assign I1.mono (by conv => lhs; whnf) ?_
  refine GL.doneT (by kernel_rfl) ?_
  refine goOn ?_
  refine Wp.seqI ?_
  refine Wp.seqI ?_
  refine Wp.regI I1.mono ?_
  refine GL.move I1.mono (by conv => lhs; whnf) ?_
  refine GL.nilEq I1.mono rfl rfl rfl rfl rfl ?_
  refine GL.move I1.mono (by conv => lhs; whnf) ?_
  refine GL.guardT rfl ?_
  refine GL.move I1.mono (by conv => lhs; whnf) ?_
  refine GL.guardT rfl ?_
  refine GL.nilEq I1.mono rfl rfl rfl rfl rfl ?_
  refine GL.pick I1.mono rfl (by conv => lhs; whnf) ?_
  refine GL.doneF ?_
  refine goOn ?_
  refine Wp.condF rfl ?_
  refine Wp.skipI ?_
  refine goOn ?_
  refine Wp.seqI ?_
  refine Wp.regI I1.mono ?_
  refine GL.move I1.mono (by conv => lhs; whnf) ?_
  refine GL.callFl I1.mono rfl (Frz.aggc (Frz.ref rfl rfl rfl rfl (Frz.pures rfl)) Frz.aggn) (hW) (flat_ib _ _) rfl rfl ?_
  refine GL.move I1.mono (by conv => lhs; whnf) ?_
  refine GL.extract I1.mono rfl rfl ?_
  refine GL.extract I1.mono rfl rfl ?_
  refine GL.assign I1.mono (by conv => lhs; whnf) ?_
  refine GL.assign I1.mono (by conv => lhs; whnf) ?_
  refine GL.doneF ?_
  refine goOn ?_
  refine Wp.seqI ?_
  obtain ⟨ai, bi, hi1⟩ := (hask p.length HP TP).1 k s
  refine Wp.regI I1.mono ?_
  refine GL.move I1.mono (by conv => lhs; whnf) ?_
  refine GL.move I1.mono (by conv => lhs; whnf) ?_
  refine GL.move I1.mono (by conv => lhs; whnf) ?_
  refine GL.callFl I1.mono rfl (Frz.aggc (Frz.ref rfl rfl rfl rfl (Frz.pures rfl)) (Frz.aggc (Frz.pure rfl) (Frz.aggc (Frz.pure rfl) Frz.aggn))) (hi1) (flat_ib _ _) rfl rfl ?_
  refine GL.doneF ?_
  refine goOn ?_
  refine Wp.seqI ?_
  obtain ⟨ar, br, hi2⟩ := (hask p.length HP TP).2.1 k
  refine Wp.regI I1.mono ?_
  refine GL.move I1.mono (by conv => lhs; whnf) ?_
  refine GL.move I1.mono (by conv => lhs; whnf) ?_
  refine GL.callFl I1.mono rfl (Frz.aggc (Frz.ref rfl rfl rfl rfl (Frz.pures rfl)) (Frz.aggc (Frz.pure rfl) Frz.aggn)) (hi2) (flat_ib _ _) rfl rfl ?_
  refine GL.doneF ?_
  refine goOn ?_
  refine Wp.seqI ?_
  obtain ⟨ax, bx, hi3⟩ := (hask p.length HP TP).2.2 r.length HL TL k s
  refine Wp.regI I1.mono ?_
  refine GL.move I1.mono (by conv => lhs; whnf) ?_
  refine GL.move I1.mono (by conv => lhs; whnf) ?_
  refine GL.move I1.mono (by conv => lhs; whnf) ?_
  refine GL.move I1.mono (by conv => lhs; whnf) ?_
  refine GL.callFl I1.mono rfl (Frz.aggc (Frz.ref rfl rfl rfl rfl (Frz.pures rfl)) (Frz.aggc (Frz.pure rfl) (Frz.aggc (Frz.ref rfl rfl rfl rfl (Frz.pures rfl)) (Frz.aggc (Frz.pure rfl) Frz.aggn)))) (hi3) (flat_ib _ _) rfl rfl ?_
  refine GL.doneF ?_
  refine goOn ?_
  refine Wp.seqI ?_
  refine Wp.regI I1.mono ?_
  refine GL.move I1.mono (by conv => lhs; whnf) ?_
  refine GL.callFl I1.mono rfl (Frz.aggc (Frz.ref rfl rfl rfl rfl (Frz.pures rfl)) Frz.aggn) (hW) (flat_ib _ _) rfl rfl ?_
  refine GL.move I1.mono (by conv => lhs; whnf) ?_
  refine GL.extract I1.mono rfl rfl ?_
  refine GL.extract I1.mono rfl rfl ?_
  refine GL.assign I1.mono (by conv => lhs; whnf) ?_
  refine GL.assign I1.mono (by conv => lhs; whnf) ?_
  refine GL.doneF ?_
  refine goOn ?_
  refine Wp.seqI ?_
  refine Wp.seqI ?_
  refine Wp.regI I1.mono ?_
  refine GL.move I1.mono (by conv => lhs; whnf) ?_
  refine GL.move I1.mono (by conv => lhs; whnf) ?_
  refine GL.bin I1.mono rfl ?_
  refine GL.move I1.mono (by conv => lhs; whnf) ?_
  refine GL.splitAt 83 rfl (fun h83 => ?_) (fun h83 => ?_)
  ·rw [h83]
   skip
   simp at h83
  ·rw [h83]
   skip
   refine GL.guardT rfl ?_
   refine GL.move I1.mono (by conv => lhs; whnf) ?_
   refine GL.guardT rfl ?_
   refine GL.move I1.mono (by conv => lhs; whnf) ?_
   refine GL.guardT rfl ?_
   refine GL.bin I1.mono rfl ?_
   refine GL.pick I1.mono rfl (by conv => lhs; whnf) ?_
   refine GL.doneF ?_
   refine goOn ?_
   refine Wp.condI rfl (fun h87 => ?_) (fun h87 => ?_)
   ·skip
    simp at h87
   ·skip
    refine Wp.skipI ?_
    refine goOn ?_
    refine Wp.seqI ?_
    refine Wp.regI I1.mono ?_
    refine GL.move I1.mono (by conv => lhs; whnf) ?_
    refine GL.move I1.mono (by conv => lhs; whnf) ?_
    refine GL.inl I1.mono (nb' := 1000000) rfl ⟨rfl, rfl, fun c hc => ?_⟩
    unfold Try.f55 at hc
    injection hc with hc
    subst hc
    refine Wp.regD ?_
    refine GL.move I0.mono (by conv => lhs; whnf) ?_
    refine GL.move I0.mono (by conv => lhs; whnf) ?_
    refine GL.move I0.mono (by conv => lhs; whnf) ?_
    refine GL.move I0.mono (by conv => lhs; whnf) ?_
    refine GL.lenF I0.mono rfl rfl (em_len _ _) ?_
    refine GL.move I0.mono (by conv => lhs; whnf) ?_
    refine GL.nilCheckR I0.mono rfl rfl rfl ?_
    refine GL.fieldAddr I0.mono (o := 0) rfl rfl rfl rfl (by conv => lhs; whnf) ?_
    refine GL.loadA I0.mono (n := 4) rfl rfl rfl rfl (by simp) rfl rfl (Nat.le_of_ble_eq_true rfl) (by (conv => lhs; simp only [List.take_succ_cons, List.take_zero, List.drop_succ_cons, List.drop_zero, List.nil_append, List.cons_append, List.drop_nil, List.append_nil, List.take_nil, List.set_cons_zero, List.set_cons_succ, Nat.zero_add, ni, nr, nc, ns, np, ic, nt, ei, cellsL, nh, nl, u32, tabL])) ?_
    refine GL.move I0.mono (by conv => lhs; whnf) ?_
    refine GL.nilCheckR I0.mono rfl rfl rfl ?_
    refine GL.fieldAddr I0.mono (o := 4) rfl rfl rfl rfl (by conv => lhs; whnf) ?_
    refine GL.load I0.mono rfl rfl rfl rfl (by simp) rfl rfl ?_
    refine GL.move I0.mono (by conv => lhs; whnf) ?_
    refine GL.call0 I0.mono rfl (Frz.aggc (by exact Frz.pures rfl) (Frz.aggc (by exact Frz.pure rfl) (Frz.aggc (by exact Frz.pure rfl) (Frz.aggn)))) (hH) rfl rfl (fun _ => rfl) ?_
    refine GL.move I0.mono (by conv => lhs; whnf) ?_
    refine GL.nilCheckR I0.mono rfl rfl rfl ?_
    refine GL.fieldAddr I0.mono (o := 0) rfl rfl rfl rfl (by conv => lhs; whnf) ?_
    refine GL.loadA I0.mono (n := 4) rfl rfl rfl rfl (by simp) rfl rfl (Nat.le_of_ble_eq_true rfl) (by (conv => lhs; simp only [List.take_succ_cons, List.take_zero, List.drop_succ_cons, List.drop_zero, List.nil_append, List.cons_append, List.drop_nil, List.append_nil, List.take_nil, List.set_cons_zero, List.set_cons_succ, Nat.zero_add, ni, nr, nc, ns, np, ic, nt, ei, cellsL, nh, nl, u32, tabL])) ?_
    refine GL.move I0.mono (by conv => lhs; whnf) ?_
    refine GL.nilCheckR I0.mono rfl rfl rfl ?_
    refine GL.fieldAddr I0.mono (o := 4) rfl rfl rfl rfl (by conv => lhs; whnf) ?_
    refine GL.load I0.mono rfl rfl rfl rfl (by simp) rfl rfl ?_
    refine GL.move I0.mono (by conv => lhs; whnf) ?_
    refine GL.call0 I0.mono rfl (Frz.aggc (by exact Frz.pures rfl) (Frz.aggc (by exact Frz.pure rfl) (Frz.aggc (by exact Frz.pure rfl) (Frz.aggn)))) (hT) rfl rfl (fun _ => rfl) ?_
    refine GL.nilCheckR I0.mono rfl rfl rfl ?_
    refine GL.fieldAddr I0.mono (o := 5) rfl rfl rfl rfl (by conv => lhs; whnf) ?_
    refine GL.store I0.mono (n := 1) rfl rfl rfl rfl rfl rfl rfl rfl rfl rfl (Nat.le_of_ble_eq_true rfl) (by (conv => lhs; simp only [List.take_succ_cons, List.take_zero, List.drop_succ_cons, List.drop_zero, List.nil_append, List.cons_append, List.drop_nil, List.append_nil, List.take_nil, List.set_cons_zero, List.set_cons_succ, Nat.zero_add, ni, nr, nc, ns, np, ic, nt, ei, cellsL, nh, nl, u32, tabL])) (by (conv => lhs; simp only [List.take_succ_cons, List.take_zero, List.drop_succ_cons, List.drop_zero, List.nil_append, List.cons_append, List.drop_nil, List.append_nil, List.take_nil, List.set_cons_zero, List.set_cons_succ, Nat.zero_add, ni, nr, nc, ns, np, ic, nt, ei, cellsL, nh, nl, u32, tabL])) ?_
    refine GL.nilCheckR I0.mono rfl rfl rfl ?_
    refine GL.fieldAddr I0.mono (o := 6) rfl rfl rfl rfl (by conv => lhs; whnf) ?_
    refine GL.store I0.mono (n := 1) rfl rfl rfl rfl rfl rfl rfl rfl rfl rfl (Nat.le_of_ble_eq_true rfl) (by (conv => lhs; simp only [List.take_succ_cons, List.take_zero, List.drop_succ_cons, List.drop_zero, List.nil_append, List.cons_append, List.drop_nil, List.append_nil, List.take_nil, List.set_cons_zero, List.set_cons_succ, Nat.zero_add, ni, nr, nc, ns, np, ic, nt, ei, cellsL, nh, nl, u32, tabL])) (by (conv => lhs; simp only [List.take_succ_cons, List.take_zero, List.drop_succ_cons, List.drop_zero, List.nil_append, List.cons_append, List.drop_nil, List.append_nil, List.take_nil, List.set_cons_zero, List.set_cons_succ, Nat.zero_add, ni, nr, nc, ns, np, ic, nt, ei, cellsL, nh, nl, u32, tabL])) ?_
    refine GL.nilCheckR I0.mono rfl rfl rfl ?_
    refine GL.fieldAddr I0.mono (o := 7) rfl rfl rfl rfl (by conv => lhs; whnf) ?_
    refine GL.store I0.mono (n := 1) rfl rfl rfl rfl rfl rfl rfl rfl rfl rfl (Nat.le_of_ble_eq_true rfl) (by (conv => lhs; simp only [List.take_succ_cons, List.take_zero, List.drop_succ_cons, List.drop_zero, List.nil_append, List.cons_append, List.drop_nil, List.append_nil, List.take_nil, List.set_cons_zero, List.set_cons_succ, Nat.zero_add, ni, nr, nc, ns, np, ic, nt, ei, cellsL, nh, nl, u32, tabL])) (by (conv => lhs; simp only [List.take_succ_cons, List.take_zero, List.drop_succ_cons, List.drop_zero, List.nil_append, List.cons_append, List.drop_nil, List.append_nil, List.take_nil, List.set_cons_zero, List.set_cons_succ, Nat.zero_add, ni, nr, nc, ns, np, ic, nt, ei, cellsL, nh, nl, u32, tabL])) ?_
    refine GL.doneT (by kernel_rfl) ?_
    refine RetM.normal_ ?_
    refine ⟨_, .nil, ?_⟩
    refine GL.doneF ?_
    refine goOn ?_
    refine Wp.seqI ?_
    refine Wp.seqI ?_
    refine Wp.regI I1.mono ?_
    refine GL.assign I1.mono (by conv => lhs; whnf) ?_
    refine GL.doneF ?_
    refine goOn ?_
    refine Wp.blockI ?_
    refine Wp.loopI I1.mono (α := Int × Nat × Nat) (fun ⟨x, gt, gu⟩ st => (-1 ≤ x ∧ x ≤ r.length + 2) ∧ ∃ m0, st = ⟨(updS (updS (updS (updS (updS (updS (updS (fun _ => LV.undef) 3 (.int .i64 c)) 5 (.int .i64 s)) 13 (.ref 832 g13 0 0)) 14 (.sl (em ni r))) 15 (.ref 3008 gt 0 0)) 16 (.ref 3264 gu 0 0)) 21 (.int .i64 x)), effM m0 [(832, ⟨g13, false, .var, 4, [ic I]⟩), (3008, ⟨gt, false, .var, 8, [tabL I c r.length HL TL]⟩), (3264, ⟨gu, false, .var, 8, [tabL I c r.length HL TL]⟩)]⟩) (fun ⟨x, gt, gu⟩ => (r.length + 2 - x).toNat) ⟨-1, _, _⟩ ⟨_, (LessS.weak (LessS.upd (LessS.upd (LessS.upd (LessS.upd (LessS.upd (LessS.upd (LessS.upd (LessS.nil _) rfl) rfl) rfl) rfl) rfl) rfl) rfl) _), (by omega), _, (congrArg (St.mk _) (effM_eq (Has.cons rfl (Has.cons rfl (Has.cons rfl Has.nil)))).symm)⟩ ?_
    rintro ⟨x, gt, gu⟩ _ ⟨hx, m0, rfl⟩
    refine Wp.seqI ?_
    refine Wp.seqI ?_
    refine Wp.regI I1.mono ?_
    refine GL.move I1.mono (by conv => lhs; whnf) ?_
    refine GL.move I1.mono (by conv => lhs; whnf) ?_
    refine GL.lenF I1.mono rfl rfl (em_len _ _) ?_
    refine GL.addR I1.mono rfl rfl (by omega) ?_
    refine GL.bin I1.mono rfl ?_
    refine GL.doneF ?_
    refine goOn ?_
    refine Wp.condI rfl (fun h95 => ?_) (fun h95 => ?_)
    ·replace h95 := of_decide_eq_true h95
     refine Wp.skipI ?_
     refine goOn ?_
     refine Wp.seqI ?_
     refine Wp.blockI ?_
     refine Wp.seqI ?_
     refine Wp.regI I1.mono ?_
     refine GL.move I1.mono (by conv => lhs; whnf) ?_
     refine GL.fieldAddr I1.mono (o := 1) rfl rfl rfl rfl (by conv => lhs; whnf) ?_
     refine GL.load I1.mono rfl rfl rfl rfl (by simp) rfl rfl ?_
     refine GL.lenF I1.mono rfl rfl (em_len _ _) ?_
     refine GL.call0 I1.mono rfl (Frz.aggc (by exact Frz.pure rfl) (Frz.aggc (by exact Frz.pure rfl) (Frz.aggn))) (within_ok _ _ (by omega)) rfl rfl (fun _ => rfl) ?_
     refine GL.addR I1.mono rfl rfl (by omega) ?_
     refine GL.assign I1.mono (by conv => lhs; whnf) ?_
     refine GL.doneF ?_
     refine goOn ?_
     refine Wp.seqI ?_
     obtain ⟨aj, bj, hj1⟩ := (hask r.length HL TL).1 x (within s I.stops.length + 1)
     refine Wp.regI I1.mono ?_
     refine GL.move I1.mono (by conv => lhs; whnf) ?_
     refine GL.move I1.mono (by conv => lhs; whnf) ?_
     refine GL.move I1.mono (by conv => lhs; whnf) ?_
     refine GL.callFl I1.mono rfl (Frz.aggc (Frz.ref rfl rfl rfl rfl (Frz.pures rfl)) (Frz.aggc (Frz.pure rfl) (Frz.aggc (Frz.pure rfl) Frz.aggn))) (hj1) (flat_ib _ _) rfl rfl ?_
     refine GL.move I1.mono (by conv => lhs; whnf) ?_
     refine GL.extract I1.mono rfl rfl ?_
     refine GL.extract I1.mono rfl rfl ?_
     refine GL.assign I1.mono (by conv => lhs; whnf) ?_
     refine GL.assign I1.mono (by conv => lhs; whnf) ?_
     refine GL.doneF ?_
     refine goOn ?_
     refine Wp.seqI ?_
     refine Wp.regI I1.mono ?_
     refine GL.move I1.mono (by conv => lhs; whnf) ?_
     refine GL.move I1.mono (by conv => lhs; whnf) ?_
     refine GL.move I1.mono (by conv => lhs; whnf) ?_
     refine GL.callFl I1.mono rfl (Frz.aggc (Frz.ref rfl rfl rfl rfl (Frz.pures rfl)) (Frz.aggc (Frz.pure rfl) (Frz.aggc (Frz.pure rfl) Frz.aggn))) (hj1) (flat_ib _ _) rfl rfl ?_
     refine GL.move I1.mono (by conv => lhs; whnf) ?_
     refine GL.extract I1.mono rfl rfl ?_
     refine GL.extract I1.mono rfl rfl ?_
     refine GL.assign I1.mono (by conv => lhs; whnf) ?_
     refine GL.assign I1.mono (by conv => lhs; whnf) ?_
     refine GL.doneF ?_
     refine goOn ?_
     refine Wp.seqI ?_
     obtain ⟨aq, bq, hj2⟩ := (hask r.length HL TL).2.1 x
     refine Wp.regI I1.mono ?_
     refine GL.move I1.mono (by conv => lhs; whnf) ?_
     refine GL.move I1.mono (by conv => lhs; whnf) ?_
     refine GL.callFl I1.mono rfl (Frz.aggc (Frz.ref rfl rfl rfl rfl (Frz.pures rfl)) (Frz.aggc (Frz.pure rfl) Frz.aggn)) (hj2) (flat_ib _ _) rfl rfl ?_
     refine GL.move I1.mono (by conv => lhs; whnf) ?_
     refine GL.extract I1.mono rfl rfl ?_
     refine GL.extract I1.mono rfl rfl ?_
     refine GL.assign I1.mono (by conv => lhs; whnf) ?_
     refine GL.assign I1.mono (by conv => lhs; whnf) ?_
     refine GL.doneF ?_
     refine goOn ?_
     refine Wp.seqI ?_
     refine Wp.regI I1.mono ?_
     refine GL.move I1.mono (by conv => lhs; whnf) ?_
     refine GL.move I1.mono (by conv => lhs; whnf) ?_
     refine GL.callFl I1.mono rfl (Frz.aggc (Frz.ref rfl rfl rfl rfl (Frz.pures rfl)) (Frz.aggc (Frz.pure rfl) Frz.aggn)) (hj2) (flat_ib _ _) rfl rfl ?_
     refine GL.move I1.mono (by conv => lhs; whnf) ?_
     refine GL.extract I1.mono rfl rfl ?_
     refine GL.extract I1.mono rfl rfl ?_
     refine GL.assign I1.mono (by conv => lhs; whnf) ?_
     refine GL.assign I1.mono (by conv => lhs; whnf) ?_
     refine GL.doneF ?_
     refine goOn ?_
     refine Wp.seqI ?_
     refine Wp.regI I1.mono ?_
     refine GL.move I1.mono (by conv => lhs; whnf) ?_
     refine GL.move I1.mono (by conv => lhs; whnf) ?_
     refine GL.bin I1.mono rfl ?_
     refine GL.move I1.mono (by conv => lhs; whnf) ?_
     refine GL.splitAt 133 rfl (fun h133 => ?_) (fun h133 => ?_)
     ·rw [h133]
      skip
      simp at h133
     ·rw [h133]
      skip
      refine GL.guardT rfl ?_
      refine GL.move I1.mono (by conv => lhs; whnf) ?_
      refine GL.guardT rfl ?_
      refine GL.move I1.mono (by conv => lhs; whnf) ?_
      refine GL.guardT rfl ?_
      refine GL.bin I1.mono rfl ?_
      refine GL.pick I1.mono rfl (by conv => lhs; whnf) ?_
      refine GL.move I1.mono (by conv => lhs; whnf) ?_
      refine GL.splitAt 138 rfl (fun h138 => ?_) (fun h138 => ?_)
      ·rw [h138]
       skip
       simp at h138
      ·rw [h138]
       skip
       refine GL.guardT rfl ?_
       refine GL.move I1.mono (by conv => lhs; whnf) ?_
       refine GL.guardT rfl ?_
       refine GL.move I1.mono (by conv => lhs; whnf) ?_
       refine GL.guardT rfl ?_
       refine GL.bin I1.mono rfl ?_
       refine GL.pick I1.mono rfl (by conv => lhs; whnf) ?_
       refine GL.move I1.mono (by conv => lhs; whnf) ?_
       refine GL.splitAt 143 rfl (fun h143 => ?_) (fun h143 => ?_)
       ·rw [h143]
        skip
        simp at h143
       ·rw [h143]
        skip
        refine GL.guardT rfl ?_
        refine GL.move I1.mono (by conv => lhs; whnf) ?_
        refine GL.guardT rfl ?_
        refine GL.move I1.mono (by conv => lhs; whnf) ?_
        refine GL.guardT rfl ?_
        refine GL.bin I1.mono rfl ?_
        refine GL.pick I1.mono rfl (by conv => lhs; whnf) ?_
        refine GL.doneF ?_
        refine goOn ?_
        refine Wp.condI rfl (fun h147 => ?_) (fun h147 => ?_)
        ·skip
         simp at h147
        ·skip
         refine Wp.skipI ?_
         refine blockX.normal ?_
         refine goOn ?_
         refine Wp.regI I1.mono ?_
         refine GL.move I1.mono (by conv => lhs; whnf) ?_
         refine GL.addR I1.mono rfl rfl (by omega) ?_
         refine GL.assign I1.mono (by conv => lhs; whnf) ?_
         refine GL.doneF ?_
         refine ⟨⟨x + 1, _, _⟩, (by dsimp only; omega), _, (LessS.weak (LessS.upd (LessS.upd (LessS.upd (LessS.upd (LessS.upd (LessS.upd (LessS.upd (LessS.nil _) rfl) rfl) rfl) rfl) rfl) rfl) rfl) _), (by omega), _, (congrArg (St.mk _) (effM_eq (Has.cons rfl (Has.cons rfl (Has.cons rfl Has.nil)))).symm)⟩
    ·replace h95 := of_decide_eq_false h95
     refine Wp.exitI ?_
     refine thenX.exit ?_
     refine thenX.exit ?_
     refine blockX.out ?_
     refine goOn ?_
     refine Wp.seqI ?_
     refine Wp.regI I1.mono ?_
     refine GL.move I1.mono (by conv => lhs; whnf) ?_
     refine GL.callFl I1.mono rfl (Frz.aggc (Frz.ref rfl rfl rfl rfl (Frz.pures rfl)) Frz.aggn) (hlen) (FlatI.sca rfl) rfl rfl ?_
     refine GL.move I1.mono (by conv => lhs; whnf) ?_
     refine GL.lenF I1.mono rfl rfl (em_len _ _) ?_
     refine GL.bin I1.mono rfl ?_
     refine GL.move I1.mono (by conv => lhs; whnf) ?_
     refine GL.splitAt 153 rfl (fun h153 => ?_) (fun h153 => ?_)
     ·rw [h153]
      skip
      refine GL.guardT rfl ?_
      refine GL.call0 I1.mono rfl (Frz.aggn) (wakes6_ok) rfl rfl (fun _ => rfl) ?_
      refine GL.pick I1.mono rfl (by conv => lhs; whnf) ?_
      refine GL.assign I1.mono (by conv => lhs; whnf) ?_
      refine GL.doneF ?_
      refine goOn ?_
      refine Wp.retI ?_
      refine RetX.ret ?_
      refine ⟨_, _, _, _, .cons (.tmp rfl) .nil, .frz (.pure rfl), List.nodup_nil, by simp, ?_⟩
      rfl
     ·rw [h153]
      skip
      (replace h153 := (show decide ((r.length : Int) = r.length) = false from h153); simp at h153)


theorem within_le (a : Int) {n : Int} (h0 : 0 ≤ n) : 0 ≤ within a n ∧ within a n ≤ n := by
  by_cases h : n < 1
  · unfold within
    rw [if_pos h]
    omega
  · have := within_in (a := a) (n := n) (by omega)
    omega
theorem asks {i : Inst} (ht : Tb i) (c n : Int) (H : List Head) (T : List Tail) : (∀ k s : Int, ∃ (a : Int) (b : Bool), CallsV Try.prog 53 [tabP i c n H T, .int .i64 k, .int .i64 s] (.tup [.int .i64 a, .bool b])) ∧ (∀ k : Int, ∃ (a : Int) (b : Bool), CallsV Try.prog 57 [tabP i c n H T, .int .i64 k] (.tup [.int .i64 a, .bool b])) ∧ ∀ (n2 : Int) (H2 : List Head) (T2 : List Tail) (k q : Int), ∃ (a : Int) (b : Bool), CallsV Try.prog 49 [tabP i c n H T, .int .i64 k, tabP i c n2 H2 T2, .int .i64 q] (.tup [.int .i64 a, .bool b]) :=
  ⟨fun k s => ⟨_, _, tinsert_ok i c n H T ht k s⟩, fun k => ⟨_, _, tremove_ok i c n H T ht.short k⟩, fun n2 H2 T2 k q => ⟨_, _, tcross_ok i c n H T ht.short i c n2 H2 T2 k q⟩⟩
theorem law_FitsAsks (z0 : List Int) (h0 : Ints z0) (z1 : List Int) (h1 : Ints z1) (z2 : List Int) (h2 : Ints z2) (n k s : Int) : CallsV Try.prog 17 [.sl (em ni z0), .sl (em ni z1), .sl (em ni z2), .int .i64 n, .int .i64 k, .int .i64 s] (.bool true) := by
  have hb := inst_sb z0
  have ht := tb_inst hb (inst_sd z0)
  have hp := row_short (instOf z0) z1
  have hr := row_short (instOf z0) z2
  have hst := hb.sq.stops
  have hN := hb.sq.high
  have hws := within_le s (n := (instOf z0).stops.length) (by omega)
  exact fa_walk z0 z1 z2 n k s (instOf z0) hb.sq.short (by omega) hb.sq.cars1 (inst_ok z0 h0) _ _ (row_ok _ hb.sq.short z1 h1) (row_ok _ hb.sq.short z2 h2) hr _ rfl _ _ _ _ (tnew_ok _ ht _ _ (by unfold Short; omega)) (tnew_ok _ ht _ _ (by unfold Short; omega)) (heads_ok _ ht _ _ (by unfold Short; omega)) (tails_ok _ ht _ _ (by unfold Short; omega)) (by omega) _ _ (twhole_ok _ _ _ _ _ hb.sq.short) (asks ht _) (tlen_ok _ _ _ _ _)

end Go.Proofs.Ytpepcfombibpeaa
