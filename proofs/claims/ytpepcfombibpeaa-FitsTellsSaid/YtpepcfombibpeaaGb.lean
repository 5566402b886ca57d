/- A new table, walked. -/
import Derived.Test.YtpepcfombibpeaaFp
import Derived.Test.YtpepcfombibpeaaGa
import Derived.KernelRfl
set_option linter.unusedVariables false
set_option linter.unusedSimpArgs false
namespace Go.Proofs.Ytpepcfombibpeaa
open Go.Proofs Mv



theorem set_sound : InlS Try.prog (I1 Try.prog 55 Try.f55 2) := I1.sound mix Try.func55 rfl rfl (by decide) (by kernel_rfl)

set_option maxRecDepth 100000 in
set_option maxHeartbeats 4000000 in
theorem tnew_ok (i : Inst) (ht : Tb i) (c : Int) (l : List Int) (hl : Short l) : CallsV Try.prog 48 [ei i, .int .i64 c, .sl (em ni l)] (.ptro (tabL i c l.length (heads i c l) (tails i c l))) := by
  refine CallsR.intro set_sound mix Try.func48 rfl rfl (by simp [Try.f48]) (by kernel_rfl) (nb := 0) ?_
  unfold Try.f48
  refine Wp.seqI ?_
  refine Wp.regI I1.mono ?_
  refine GL.box I1.mono (by conv => lhs; whnf) rfl (n := 4) rfl rfl ?_
  intro g3
  refine GL.assign I1.mono (by conv => lhs; whnf) ?_
  refine GL.doneF ?_
  refine goOn ?_
  refine Wp.seqI ?_
  refine Wp.regI I1.mono ?_
  refine GL.loadW I1.mono (n := 4) rfl rfl rfl rfl (by simp) rfl rfl rfl ?_
  refine GL.move I1.mono (by conv => lhs; whnf) ?_
  refine GL.build I1.mono (v := .agg [.sl (em nc i.cars), .sl (em ns i.stops), .sl (em np i.pairs), .sl (em nr i.travel), .int .i64 c, .int .i64 0, .nils, .nils]) rfl rfl ?_
  refine GL.box I1.mono (by conv => lhs; whnf) rfl (n := 8) rfl rfl ?_
  intro g11
  refine GL.assign I1.mono (by conv => lhs; whnf) ?_
  refine GL.doneF ?_
  refine goOn ?_
  refine Wp.seqI ?_
  refine Wp.regI I1.mono ?_
  refine GL.move I1.mono (by conv => lhs; whnf) ?_
  refine GL.move I1.mono (by conv => lhs; whnf) ?_
  refine GL.inl I1.mono (nb' := 1000000) rfl ⟨rfl, rfl, fun c hc => ?_⟩
  unfold Try.f55 at hc
  injection hc with hc
  subst hc
  refine Wp.regD ?_
  refine GL.move I0.mono (by conv => lhs; whnf) ?_
  refine GL.move I0.mono (by conv => lhs; whnf) ?_
  refine GL.move I0.mono (by conv => lhs; whnf) ?_
  refine GL.move I0.mono (by conv => lhs; whnf) ?_
  refine GL.lenF I0.mono rfl rfl (em_len _ _) ?_
  refine GL.move I0.mono (by conv => lhs; whnf) ?_
  refine GL.nilCheckR I0.mono rfl rfl rfl ?_
  refine GL.fieldAddr I0.mono (o := 0) rfl rfl rfl rfl (by conv => lhs; whnf) ?_
  refine GL.loadA I0.mono (n := 4) rfl rfl rfl rfl (by simp) rfl rfl (Nat.le_of_ble_eq_true rfl) (by (conv => lhs; simp only [List.take_succ_cons, List.take_zero, List.drop_succ_cons, List.drop_zero, List.nil_append, List.cons_append, List.drop_nil, List.append_nil, List.take_nil, List.set_cons_zero, List.set_cons_succ, Nat.zero_add, ni, nr, nc, ns, np, ic, nt, ei, cellsL, nh, nl, u32, tabL])) ?_
  refine GL.move I0.mono (by conv => lhs; whnf) ?_
  refine GL.nilCheckR I0.mono rfl rfl rfl ?_
  refine GL.fieldAddr I0.mono (o := 4) rfl rfl rfl rfl (by conv => lhs; whnf) ?_
  refine GL.load I0.mono rfl rfl rfl rfl (by simp) rfl rfl ?_
  refine GL.move I0.mono (by conv => lhs; whnf) ?_
  refine GL.call0 I0.mono rfl (Frz.aggc (by exact Frz.pures rfl) (Frz.aggc (by exact Frz.pure rfl) (Frz.aggc (by exact Frz.pure rfl) (Frz.aggn)))) (heads_ok i ht c l hl) rfl rfl (fun _ => rfl) ?_
  refine GL.move I0.mono (by conv => lhs; whnf) ?_
  refine GL.nilCheckR I0.mono rfl rfl rfl ?_
  refine GL.fieldAddr I0.mono (o := 0) rfl rfl rfl rfl (by conv => lhs; whnf) ?_
  refine GL.loadA I0.mono (n := 4) rfl rfl rfl rfl (by simp) rfl rfl (Nat.le_of_ble_eq_true rfl) (by (conv => lhs; simp only [List.take_succ_cons, List.take_zero, List.drop_succ_cons, List.drop_zero, List.nil_append, List.cons_append, List.drop_nil, List.append_nil, List.take_nil, List.set_cons_zero, List.set_cons_succ, Nat.zero_add, ni, nr, nc, ns, np, ic, nt, ei, cellsL, nh, nl, u32, tabL])) ?_
  refine GL.move I0.mono (by conv => lhs; whnf) ?_
  refine GL.nilCheckR I0.mono rfl rfl rfl ?_
  refine GL.fieldAddr I0.mono (o := 4) rfl rfl rfl rfl (by conv => lhs; whnf) ?_
  refine GL.load I0.mono rfl rfl rfl rfl (by simp) rfl rfl ?_
  refine GL.move I0.mono (by conv => lhs; whnf) ?_
  refine GL.call0 I0.mono rfl (Frz.aggc (by exact Frz.pures rfl) (Frz.aggc (by exact Frz.pure rfl) (Frz.aggc (by exact Frz.pure rfl) (Frz.aggn)))) (tails_ok i ht c l hl) rfl rfl (fun _ => rfl) ?_
  refine GL.nilCheckR I0.mono rfl rfl rfl ?_
  refine GL.fieldAddr I0.mono (o := 5) rfl rfl rfl rfl (by conv => lhs; whnf) ?_
  refine GL.store I0.mono (n := 1) rfl rfl rfl rfl rfl rfl rfl rfl rfl rfl (Nat.le_of_ble_eq_true rfl) (by (conv => lhs; simp only [List.take_succ_cons, List.take_zero, List.drop_succ_cons, List.drop_zero, List.nil_append, List.cons_append, List.drop_nil, List.append_nil, List.take_nil, List.set_cons_zero, List.set_cons_succ, Nat.zero_add, ni, nr, nc, ns, np, ic, nt, ei, cellsL, nh, nl, u32, tabL])) (by (conv => lhs; simp only [List.take_succ_cons, List.take_zero, List.drop_succ_cons, List.drop_zero, List.nil_append, List.cons_append, List.drop_nil, List.append_nil, List.take_nil, List.set_cons_zero, List.set_cons_succ, Nat.zero_add, ni, nr, nc, ns, np, ic, nt, ei, cellsL, nh, nl, u32, tabL])) ?_
  refine GL.nilCheckR I0.mono rfl rfl rfl ?_
  refine GL.fieldAddr I0.mono (o := 6) rfl rfl rfl rfl (by conv => lhs; whnf) ?_
  refine GL.store I0.mono (n := 1) rfl rfl rfl rfl rfl rfl rfl rfl rfl rfl (Nat.le_of_ble_eq_true rfl) (by (conv => lhs; simp only [List.take_succ_cons, List.take_zero, List.drop_succ_cons, List.drop_zero, List.nil_append, List.cons_append, List.drop_nil, List.append_nil, List.take_nil, List.set_cons_zero, List.set_cons_succ, Nat.zero_add, ni, nr, nc, ns, np, ic, nt, ei, cellsL, nh, nl, u32, tabL])) (by (conv => lhs; simp only [List.take_succ_cons, List.take_zero, List.drop_succ_cons, List.drop_zero, List.nil_append, List.cons_append, List.drop_nil, List.append_nil, List.take_nil, List.set_cons_zero, List.set_cons_succ, Nat.zero_add, ni, nr, nc, ns, np, ic, nt, ei, cellsL, nh, nl, u32, tabL])) ?_
  refine GL.nilCheckR I0.mono rfl rfl rfl ?_
  refine GL.fieldAddr I0.mono (o := 7) rfl rfl rfl rfl (by conv => lhs; whnf) ?_
  refine GL.store I0.mono (n := 1) rfl rfl rfl rfl rfl rfl rfl rfl rfl rfl (Nat.le_of_ble_eq_true rfl) (by (conv => lhs; simp only [List.take_succ_cons, List.take_zero, List.drop_succ_cons, List.drop_zero, List.nil_append, List.cons_append, List.drop_nil, List.append_nil, List.take_nil, List.set_cons_zero, List.set_cons_succ, Nat.zero_add, ni, nr, nc, ns, np, ic, nt, ei, cellsL, nh, nl, u32, tabL])) (by (conv => lhs; simp only [List.take_succ_cons, List.take_zero, List.drop_succ_cons, List.drop_zero, List.nil_append, List.cons_append, List.drop_nil, List.append_nil, List.take_nil, List.set_cons_zero, List.set_cons_succ, Nat.zero_add, ni, nr, nc, ns, np, ic, nt, ei, cellsL, nh, nl, u32, tabL])) ?_
  refine GL.doneT (by kernel_rfl) ?_
  refine RetM.normal_ ?_
  refine ⟨_, .nil, ?_⟩
  refine GL.doneF ?_
  refine goOn ?_
  refine Wp.seqI ?_
  refine Wp.regI I1.mono ?_
  refine GL.move I1.mono (by conv => lhs; whnf) ?_
  refine GL.assign I1.mono (by conv => lhs; whnf) ?_
  refine GL.doneF ?_
  refine goOn ?_
  refine Wp.retI ?_
  refine RetX.ret ?_
  refine ⟨_, _, _, _, .cons (.tmp rfl) .nil, .ptro rfl rfl rfl rfl rfl (.frz (Frz.pures rfl)), (by decide), by simp, ?_⟩
  rfl

end Go.Proofs.Ytpepcfombibpeaa
