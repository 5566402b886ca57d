/- The law of the waits of a trip, walked. -/
import Derived.Test.YtpepcfombibpeaaFc
import Derived.Test.YtpepcfombibpeaaFg
import Derived.Test.YtpepcfombibpeaaMv34
import Derived.KernelRfl
set_option linter.unusedVariables false
set_option linter.unusedSimpArgs false
namespace Go.Proofs.Ytpepcfombibpeaa
open Go.Proofs Mv


set_option maxRecDepth 100000 in
set_option maxHeartbeats 4000000 in
theorem tw_walk (z0 z1 : List Int) (n : Int) (I : Inst) (N : Nat) (hb : Sb I N) (hI : CallsV Try.prog 29 [.sl (em ni z0)] (ei I)) (r : List Int) (hr : CallsV Try.prog 30 [ei I, .sl (em ni z1)] (.sl (em ni r))) (hrl : r.length ≤ 14) (c : Int) (hc : within n I.cars.length = c) (T : Trip) (b : Bool) (he : CallsV Try.prog 23 [ei I, .int .i64 c, .sl (em ni r)] (.tup [.agg (nt T), .bool b])) (h0 : b = false → T = zeroT) (h1 : b = true → Drv I N (I.cars.getD c.toNat default) r T) : CallsV Try.prog 6 [.sl (em ni z0), .sl (em ni z1), .int .i64 n] (.bool true) := by
  refine CallsR.intro (I0.sound _) mix Try.func6 rfl rfl (by simp [Try.f6]) (by kernel_rfl) (nb := 0) ?_
  unfold Try.f6
  refine Wp.seqI ?_
  refine Wp.regI I0.mono ?_
  refine GL.assign I0.mono (by conv => lhs; whnf) ?_
  refine GL.doneF ?_
  refine goOn ?_
  refine Wp.seqI ?_
  refine Wp.regI I0.mono ?_
  refine GL.move I0.mono (by conv => lhs; whnf) ?_
  refine GL.call0 I0.mono rfl (Frz.aggc (by first | exact Frz.pure rfl | exact Frz.pures rfl | exact Frz.nils | exact Frz.whole rfl rfl rfl rfl (by first | exact em_len _ _ | (rw [em_len]; omega)) | exact (Frz.aggc (by first | exact Frz.pure rfl | exact Frz.nils | exact Frz.whole rfl rfl rfl rfl (by first | exact em_len _ _ | (rw [em_len]; omega))) (Frz.aggc (by first | exact Frz.pure rfl | exact Frz.nils | exact Frz.whole rfl rfl rfl rfl (by first | exact em_len _ _ | (rw [em_len]; omega))) (Frz.aggc (by first | exact Frz.pure rfl | exact Frz.nils | exact Frz.whole rfl rfl rfl rfl (by first | exact em_len _ _ | (rw [em_len]; omega))) (Frz.aggc (by first | exact Frz.pure rfl | exact Frz.nils | exact Frz.whole rfl rfl rfl rfl (by first | exact em_len _ _ | (rw [em_len]; omega))) Frz.aggn))))) (Frz.aggn)) (hI) rfl rfl (fun _ => rfl) ?_
  refine GL.alloc I0.mono (cs := [LV.nils, LV.nils, LV.nils, LV.nils]) rfl rfl ?_
  intro g7
  refine GL.store I0.mono (n := 4) rfl rfl rfl rfl rfl rfl rfl rfl rfl rfl (Nat.le_of_ble_eq_true rfl) (by first | (conv => lhs; simp only [List.take_succ_cons, List.take_zero, List.drop_succ_cons, List.drop_zero, List.nil_append, List.cons_append, List.drop_nil, List.append_nil, List.take_nil, List.set_cons_zero, List.set_cons_succ, Nat.zero_add, ni, nr, nc, ns, np, ic, nt, ei, cellsL]) | rfl) (by first | (conv => lhs; simp only [List.take_succ_cons, List.take_zero, List.drop_succ_cons, List.drop_zero, List.nil_append, List.cons_append, List.drop_nil, List.append_nil, List.take_nil, List.set_cons_zero, List.set_cons_succ, Nat.zero_add, ni, nr, nc, ns, np, ic, nt, ei, cellsL]) | rfl) ?_
  refine GL.doneF ?_
  refine goOn ?_
  refine Wp.seqI ?_
  refine Wp.regI I0.mono ?_
  refine GL.move I0.mono (by conv => lhs; whnf) ?_
  first | refine GL.fieldAddr I0.mono (o := 0) rfl rfl rfl rfl (by conv => lhs; whnf) ?_ | refine GL.fieldAddrF I0.mono (o := 0) rfl rfl (by conv => lhs; whnf) ?_
  first | refine GL.load I0.mono rfl rfl rfl rfl (by simp) rfl rfl ?_ | refine GL.loadF I0.mono rfl rfl (em_get (by omega)) rfl ?_
  first | refine GL.lenF I0.mono rfl rfl (em_len _ _) ?_ | refine GL.lenO I0.mono rfl rfl rfl rfl ?_ | refine GL.lenN I0.mono rfl rfl ?_
  refine GL.call0 I0.mono rfl (Frz.aggc (by first | exact Frz.pure rfl | exact Frz.pures rfl | exact Frz.nils | exact Frz.whole rfl rfl rfl rfl (by first | exact em_len _ _ | (rw [em_len]; omega)) | exact (Frz.aggc (by first | exact Frz.pure rfl | exact Frz.nils | exact Frz.whole rfl rfl rfl rfl (by first | exact em_len _ _ | (rw [em_len]; omega))) (Frz.aggc (by first | exact Frz.pure rfl | exact Frz.nils | exact Frz.whole rfl rfl rfl rfl (by first | exact em_len _ _ | (rw [em_len]; omega))) (Frz.aggc (by first | exact Frz.pure rfl | exact Frz.nils | exact Frz.whole rfl rfl rfl rfl (by first | exact em_len _ _ | (rw [em_len]; omega))) (Frz.aggc (by first | exact Frz.pure rfl | exact Frz.nils | exact Frz.whole rfl rfl rfl rfl (by first | exact em_len _ _ | (rw [em_len]; omega))) Frz.aggn))))) (Frz.aggc (by first | exact Frz.pure rfl | exact Frz.pures rfl | exact Frz.nils | exact Frz.whole rfl rfl rfl rfl (by first | exact em_len _ _ | (rw [em_len]; omega)) | exact (Frz.aggc (by first | exact Frz.pure rfl | exact Frz.nils | exact Frz.whole rfl rfl rfl rfl (by first | exact em_len _ _ | (rw [em_len]; omega))) (Frz.aggc (by first | exact Frz.pure rfl | exact Frz.nils | exact Frz.whole rfl rfl rfl rfl (by first | exact em_len _ _ | (rw [em_len]; omega))) (Frz.aggc (by first | exact Frz.pure rfl | exact Frz.nils | exact Frz.whole rfl rfl rfl rfl (by first | exact em_len _ _ | (rw [em_len]; omega))) (Frz.aggc (by first | exact Frz.pure rfl | exact Frz.nils | exact Frz.whole rfl rfl rfl rfl (by first | exact em_len _ _ | (rw [em_len]; omega))) Frz.aggn))))) (Frz.aggn))) ((hc ▸ within_ok _ _ (by have := hb.sq.cars1; omega))) rfl rfl (fun _ => rfl) ?_
  refine GL.assign I0.mono (by conv => lhs; whnf) ?_
  refine GL.doneF ?_
  refine goOn ?_
  refine Wp.seqI ?_
  refine Wp.regI I0.mono ?_
  first | refine GL.loadA I0.mono (n := 4) rfl rfl rfl rfl (by simp) rfl rfl (Nat.le_of_ble_eq_true rfl) (by first | (conv => lhs; simp only [List.take_succ_cons, List.take_zero, List.drop_succ_cons, List.drop_zero, List.nil_append, List.cons_append, List.drop_nil, List.append_nil, List.take_nil, List.set_cons_zero, List.set_cons_succ, Nat.zero_add, ni, nr, nc, ns, np, ic, nt, ei, cellsL]) | rfl) ?_ | refine GL.loadFA I0.mono (n := 4) rfl rfl (em_get (by omega)) rfl (Nat.le_of_ble_eq_true rfl) (by first | (conv => lhs; simp only [List.take_succ_cons, List.take_zero, List.drop_succ_cons, List.drop_zero, List.nil_append, List.cons_append, List.drop_nil, List.append_nil, List.take_nil, List.set_cons_zero, List.set_cons_succ, Nat.zero_add, ni, nr, nc, ns, np, ic, nt, ei, cellsL]) | rfl) ?_
  refine GL.move I0.mono (by conv => lhs; whnf) ?_
  refine GL.call0 I0.mono rfl (Frz.aggc (by first | exact Frz.pure rfl | exact Frz.pures rfl | exact Frz.nils | exact Frz.whole rfl rfl rfl rfl (by first | exact em_len _ _ | (rw [em_len]; omega)) | exact (Frz.aggc (by first | exact Frz.pure rfl | exact Frz.nils | exact Frz.whole rfl rfl rfl rfl (by first | exact em_len _ _ | (rw [em_len]; omega))) (Frz.aggc (by first | exact Frz.pure rfl | exact Frz.nils | exact Frz.whole rfl rfl rfl rfl (by first | exact em_len _ _ | (rw [em_len]; omega))) (Frz.aggc (by first | exact Frz.pure rfl | exact Frz.nils | exact Frz.whole rfl rfl rfl rfl (by first | exact em_len _ _ | (rw [em_len]; omega))) (Frz.aggc (by first | exact Frz.pure rfl | exact Frz.nils | exact Frz.whole rfl rfl rfl rfl (by first | exact em_len _ _ | (rw [em_len]; omega))) Frz.aggn))))) (Frz.aggc (by first | exact Frz.pure rfl | exact Frz.pures rfl | exact Frz.nils | exact Frz.whole rfl rfl rfl rfl (by first | exact em_len _ _ | (rw [em_len]; omega)) | exact (Frz.aggc (by first | exact Frz.pure rfl | exact Frz.nils | exact Frz.whole rfl rfl rfl rfl (by first | exact em_len _ _ | (rw [em_len]; omega))) (Frz.aggc (by first | exact Frz.pure rfl | exact Frz.nils | exact Frz.whole rfl rfl rfl rfl (by first | exact em_len _ _ | (rw [em_len]; omega))) (Frz.aggc (by first | exact Frz.pure rfl | exact Frz.nils | exact Frz.whole rfl rfl rfl rfl (by first | exact em_len _ _ | (rw [em_len]; omega))) (Frz.aggc (by first | exact Frz.pure rfl | exact Frz.nils | exact Frz.whole rfl rfl rfl rfl (by first | exact em_len _ _ | (rw [em_len]; omega))) Frz.aggn))))) (Frz.aggn))) (hr) rfl rfl (fun _ => rfl) ?_
  refine GL.assign I0.mono (by conv => lhs; whnf) ?_
  refine GL.doneF ?_
  refine goOn ?_
  refine Wp.seqI ?_
  refine Wp.regI I0.mono ?_
  first | refine GL.loadA I0.mono (n := 4) rfl rfl rfl rfl (by simp) rfl rfl (Nat.le_of_ble_eq_true rfl) (by first | (conv => lhs; simp only [List.take_succ_cons, List.take_zero, List.drop_succ_cons, List.drop_zero, List.nil_append, List.cons_append, List.drop_nil, List.append_nil, List.take_nil, List.set_cons_zero, List.set_cons_succ, Nat.zero_add, ni, nr, nc, ns, np, ic, nt, ei, cellsL]) | rfl) ?_ | refine GL.loadFA I0.mono (n := 4) rfl rfl (em_get (by omega)) rfl (Nat.le_of_ble_eq_true rfl) (by first | (conv => lhs; simp only [List.take_succ_cons, List.take_zero, List.drop_succ_cons, List.drop_zero, List.nil_append, List.cons_append, List.drop_nil, List.append_nil, List.take_nil, List.set_cons_zero, List.set_cons_succ, Nat.zero_add, ni, nr, nc, ns, np, ic, nt, ei, cellsL]) | rfl) ?_
  refine GL.move I0.mono (by conv => lhs; whnf) ?_
  refine GL.move I0.mono (by conv => lhs; whnf) ?_
  refine GL.call0 I0.mono rfl (Frz.aggc (by first | exact Frz.pure rfl | exact Frz.pures rfl | exact Frz.nils | exact Frz.whole rfl rfl rfl rfl (by first | exact em_len _ _ | (rw [em_len]; omega)) | exact (Frz.aggc (by first | exact Frz.pure rfl | exact Frz.nils | exact Frz.whole rfl rfl rfl rfl (by first | exact em_len _ _ | (rw [em_len]; omega))) (Frz.aggc (by first | exact Frz.pure rfl | exact Frz.nils | exact Frz.whole rfl rfl rfl rfl (by first | exact em_len _ _ | (rw [em_len]; omega))) (Frz.aggc (by first | exact Frz.pure rfl | exact Frz.nils | exact Frz.whole rfl rfl rfl rfl (by first | exact em_len _ _ | (rw [em_len]; omega))) (Frz.aggc (by first | exact Frz.pure rfl | exact Frz.nils | exact Frz.whole rfl rfl rfl rfl (by first | exact em_len _ _ | (rw [em_len]; omega))) Frz.aggn))))) (Frz.aggc (by first | exact Frz.pure rfl | exact Frz.pures rfl | exact Frz.nils | exact Frz.whole rfl rfl rfl rfl (by first | exact em_len _ _ | (rw [em_len]; omega)) | exact (Frz.aggc (by first | exact Frz.pure rfl | exact Frz.nils | exact Frz.whole rfl rfl rfl rfl (by first | exact em_len _ _ | (rw [em_len]; omega))) (Frz.aggc (by first | exact Frz.pure rfl | exact Frz.nils | exact Frz.whole rfl rfl rfl rfl (by first | exact em_len _ _ | (rw [em_len]; omega))) (Frz.aggc (by first | exact Frz.pure rfl | exact Frz.nils | exact Frz.whole rfl rfl rfl rfl (by first | exact em_len _ _ | (rw [em_len]; omega))) (Frz.aggc (by first | exact Frz.pure rfl | exact Frz.nils | exact Frz.whole rfl rfl rfl rfl (by first | exact em_len _ _ | (rw [em_len]; omega))) Frz.aggn))))) (Frz.aggc (by first | exact Frz.pure rfl | exact Frz.pures rfl | exact Frz.nils | exact Frz.whole rfl rfl rfl rfl (by first | exact em_len _ _ | (rw [em_len]; omega)) | exact (Frz.aggc (by first | exact Frz.pure rfl | exact Frz.nils | exact Frz.whole rfl rfl rfl rfl (by first | exact em_len _ _ | (rw [em_len]; omega))) (Frz.aggc (by first | exact Frz.pure rfl | exact Frz.nils | exact Frz.whole rfl rfl rfl rfl (by first | exact em_len _ _ | (rw [em_len]; omega))) (Frz.aggc (by first | exact Frz.pure rfl | exact Frz.nils | exact Frz.whole rfl rfl rfl rfl (by first | exact em_len _ _ | (rw [em_len]; omega))) (Frz.aggc (by first | exact Frz.pure rfl | exact Frz.nils | exact Frz.whole rfl rfl rfl rfl (by first | exact em_len _ _ | (rw [em_len]; omega))) Frz.aggn))))) (Frz.aggn)))) (he) rfl rfl (fun _ => rfl) ?_
  refine GL.move I0.mono (by conv => lhs; whnf) ?_
  refine GL.extract I0.mono rfl rfl ?_
  refine GL.extract I0.mono rfl rfl ?_
  refine GL.alloc I0.mono (cs := [LV.nils, LV.nils, LV.int .i64 0, LV.int .i64 0]) rfl rfl ?_
  intro g9
  refine GL.store I0.mono (n := 4) rfl rfl rfl rfl rfl rfl rfl rfl rfl rfl (Nat.le_of_ble_eq_true rfl) (by first | (conv => lhs; simp only [List.take_succ_cons, List.take_zero, List.drop_succ_cons, List.drop_zero, List.nil_append, List.cons_append, List.drop_nil, List.append_nil, List.take_nil, List.set_cons_zero, List.set_cons_succ, Nat.zero_add, ni, nr, nc, ns, np, ic, nt, ei, cellsL]) | rfl) (by first | (conv => lhs; simp only [List.take_succ_cons, List.take_zero, List.drop_succ_cons, List.drop_zero, List.nil_append, List.cons_append, List.drop_nil, List.append_nil, List.take_nil, List.set_cons_zero, List.set_cons_succ, Nat.zero_add, ni, nr, nc, ns, np, ic, nt, ei, cellsL]) | rfl) ?_
  refine GL.assign I0.mono (by conv => lhs; whnf) ?_
  refine GL.doneF ?_
  refine goOn ?_
  refine Wp.seqI ?_
  refine Wp.seqI ?_
  refine Wp.regI I0.mono ?_
  refine GL.move I0.mono (by conv => lhs; whnf) ?_
  refine GL.un I0.mono rfl ?_
  refine GL.doneF ?_
  refine goOn ?_
  refine Wp.condI rfl (fun h38 => ?_) (fun h38 => ?_)
  · first | replace h38 := of_decide_eq_true h38 | replace h38 := bne_true h38 | skip
    obtain rfl : T = zeroT := h0 (by simpa using h38)
    refine Wp.seqI ?_
    refine Wp.regI I0.mono ?_
    first | refine GL.fieldAddr I0.mono (o := 0) rfl rfl rfl rfl (by conv => lhs; whnf) ?_ | refine GL.fieldAddrF I0.mono (o := 0) rfl rfl (by conv => lhs; whnf) ?_
    first | refine GL.load I0.mono rfl rfl rfl rfl (by simp) rfl rfl ?_ | refine GL.loadF I0.mono rfl rfl (em_get (by omega)) rfl ?_
    first | refine GL.lenF I0.mono rfl rfl (em_len _ _) ?_ | refine GL.lenO I0.mono rfl rfl rfl rfl ?_ | refine GL.lenN I0.mono rfl rfl ?_
    refine GL.bin I0.mono rfl ?_
    refine GL.move I0.mono (by conv => lhs; whnf) ?_
    refine GL.splitAt 43 rfl (fun h43 => ?_) (fun h43 => ?_)
    · first | rw [h43] | skip
      first | replace h43 := of_decide_eq_true h43 | replace h43 := bne_true h43 | skip
      refine GL.guardT rfl ?_
      first | refine GL.fieldAddr I0.mono (o := 1) rfl rfl rfl rfl (by conv => lhs; whnf) ?_ | refine GL.fieldAddrF I0.mono (o := 1) rfl rfl (by conv => lhs; whnf) ?_
      refine GL.guardT rfl ?_
      first | refine GL.load I0.mono rfl rfl rfl rfl (by simp) rfl rfl ?_ | refine GL.loadF I0.mono rfl rfl (em_get (by omega)) rfl ?_
      refine GL.guardT rfl ?_
      first | refine GL.lenF I0.mono rfl rfl (em_len _ _) ?_ | refine GL.lenO I0.mono rfl rfl rfl rfl ?_ | refine GL.lenN I0.mono rfl rfl ?_
      refine GL.guardT rfl ?_
      refine GL.bin I0.mono rfl ?_
      refine GL.pick I0.mono rfl (by conv => lhs; whnf) ?_
      refine GL.move I0.mono (by conv => lhs; whnf) ?_
      refine GL.splitAt 49 rfl (fun h49 => ?_) (fun h49 => ?_)
      · first | rw [h49] | skip
        first | replace h49 := of_decide_eq_true h49 | replace h49 := bne_true h49 | skip
        refine GL.guardT rfl ?_
        first | refine GL.fieldAddr I0.mono (o := 2) rfl rfl rfl rfl (by conv => lhs; whnf) ?_ | refine GL.fieldAddrF I0.mono (o := 2) rfl rfl (by conv => lhs; whnf) ?_
        refine GL.guardT rfl ?_
        first | refine GL.load I0.mono rfl rfl rfl rfl (by simp) rfl rfl ?_ | refine GL.loadF I0.mono rfl rfl (em_get (by omega)) rfl ?_
        refine GL.guardT rfl ?_
        refine GL.bin I0.mono rfl ?_
        refine GL.pick I0.mono rfl (by conv => lhs; whnf) ?_
        refine GL.move I0.mono (by conv => lhs; whnf) ?_
        refine GL.splitAt 54 rfl (fun h54 => ?_) (fun h54 => ?_)
        · first | rw [h54] | skip
          first | replace h54 := of_decide_eq_true h54 | replace h54 := bne_true h54 | skip
          refine GL.guardT rfl ?_
          first | refine GL.fieldAddr I0.mono (o := 3) rfl rfl rfl rfl (by conv => lhs; whnf) ?_ | refine GL.fieldAddrF I0.mono (o := 3) rfl rfl (by conv => lhs; whnf) ?_
          refine GL.guardT rfl ?_
          first | refine GL.load I0.mono rfl rfl rfl rfl (by simp) rfl rfl ?_ | refine GL.loadF I0.mono rfl rfl (em_get (by omega)) rfl ?_
          refine GL.guardT rfl ?_
          refine GL.bin I0.mono rfl ?_
          refine GL.pick I0.mono rfl (by conv => lhs; whnf) ?_
          refine GL.move I0.mono (by conv => lhs; whnf) ?_
          refine GL.splitAt 59 rfl (fun h59 => ?_) (fun h59 => ?_)
          · first | rw [h59] | skip
            first | replace h59 := of_decide_eq_true h59 | replace h59 := bne_true h59 | skip
            refine GL.guardT rfl ?_
            refine GL.call0 I0.mono rfl (Frz.aggn) (wakes_ok) rfl rfl (fun _ => rfl) ?_
            refine GL.pick I0.mono rfl (by conv => lhs; whnf) ?_
            refine GL.assign I0.mono (by conv => lhs; whnf) ?_
            refine GL.doneF ?_
            refine goOn ?_
            refine Wp.retI ?_
            refine thenX.ret ?_
            refine RetX.ret ?_
            refine ⟨_, _, _, _, .cons (.tmp rfl) .nil, .frz (.pure rfl), List.nodup_nil, by simp, ?_⟩
            rfl
          · first | rw [h59] | skip
            first | replace h59 := of_decide_eq_false h59 | replace h59 := bne_false h59 | skip
            exact absurd rfl h59
        · first | rw [h54] | skip
          first | replace h54 := of_decide_eq_false h54 | replace h54 := bne_false h54 | skip
          exact absurd rfl h54
      · first | rw [h49] | skip
        first | replace h49 := of_decide_eq_false h49 | replace h49 := bne_false h49 | skip
        exact absurd rfl h49
    · first | rw [h43] | skip
      first | replace h43 := of_decide_eq_false h43 | replace h43 := bne_false h43 | skip
      exact absurd rfl h43
  · first | replace h38 := of_decide_eq_false h38 | replace h38 := bne_false h38 | skip
    have hci := within_in (a := n) (n := I.cars.length) (by have := hb.sq.cars0; omega)
    rw [hc] at hci
    have hD := h1 (by simpa using h38)
    have hl0 := hD.len0
    have hl1 := hD.len1
    obtain ⟨e1, e2, e3, e4, e5, e6, e7, e8, e9, e10, e11, e12, e13⟩ := hD.home
    have hT := hb.sq.travel
    have hN := hb.sq.high
    have hS := hb.sq.stops
    have hca := hb.car c.toNat (by omega)
    refine Wp.skipI ?_
    refine goOn ?_
    refine Wp.seqI ?_
    refine Wp.seqI ?_
    refine Wp.regI I0.mono ?_
    first | refine GL.fieldAddr I0.mono (o := 0) rfl rfl rfl rfl (by conv => lhs; whnf) ?_ | refine GL.fieldAddrF I0.mono (o := 0) rfl rfl (by conv => lhs; whnf) ?_
    first | refine GL.load I0.mono rfl rfl rfl rfl (by simp) rfl rfl ?_ | refine GL.loadF I0.mono rfl rfl (em_get (by omega)) rfl ?_
    first | refine GL.lenF I0.mono rfl rfl (em_len _ _) ?_ | refine GL.lenO I0.mono rfl rfl rfl rfl ?_ | refine GL.lenN I0.mono rfl rfl ?_
    refine GL.move I0.mono (by conv => lhs; whnf) ?_
    first | refine GL.lenF I0.mono rfl rfl (em_len _ _) ?_ | refine GL.lenO I0.mono rfl rfl rfl rfl ?_ | refine GL.lenN I0.mono rfl rfl ?_
    refine GL.bin I0.mono rfl ?_
    refine GL.move I0.mono (by conv => lhs; whnf) ?_
    refine GL.splitAt 68 rfl (fun h68 => ?_) (fun h68 => ?_)
    · first | rw [h68] | skip
      first | replace h68 := of_decide_eq_true h68 | replace h68 := bne_true h68 | skip
      exact absurd h68 (by omega)
    · first | rw [h68] | skip
      first | replace h68 := of_decide_eq_false h68 | replace h68 := bne_false h68 | skip
      refine GL.guardT rfl ?_
      first | refine GL.fieldAddr I0.mono (o := 1) rfl rfl rfl rfl (by conv => lhs; whnf) ?_ | refine GL.fieldAddrF I0.mono (o := 1) rfl rfl (by conv => lhs; whnf) ?_
      refine GL.guardT rfl ?_
      first | refine GL.load I0.mono rfl rfl rfl rfl (by simp) rfl rfl ?_ | refine GL.loadF I0.mono rfl rfl (em_get (by omega)) rfl ?_
      refine GL.guardT rfl ?_
      first | refine GL.lenF I0.mono rfl rfl (em_len _ _) ?_ | refine GL.lenO I0.mono rfl rfl rfl rfl ?_ | refine GL.lenN I0.mono rfl rfl ?_
      refine GL.guardT rfl ?_
      refine GL.move I0.mono (by conv => lhs; whnf) ?_
      refine GL.guardT rfl ?_
      first | refine GL.lenF I0.mono rfl rfl (em_len _ _) ?_ | refine GL.lenO I0.mono rfl rfl rfl rfl ?_ | refine GL.lenN I0.mono rfl rfl ?_
      refine GL.guardT rfl ?_
      refine GL.bin I0.mono rfl ?_
      refine GL.pick I0.mono rfl (by conv => lhs; whnf) ?_
      refine GL.doneF ?_
      refine goOn ?_
      refine Wp.condI rfl (fun h75 => ?_) (fun h75 => ?_)
      · first | replace h75 := of_decide_eq_true h75 | replace h75 := bne_true h75 | skip
        exact absurd h75 (by omega)
      · first | replace h75 := of_decide_eq_false h75 | replace h75 := bne_false h75 | skip
        refine Wp.skipI ?_
        refine goOn ?_
        refine Wp.seqI ?_
        refine Wp.regI I0.mono ?_
        first | refine GL.fieldAddr I0.mono (o := 0) rfl rfl rfl rfl (by conv => lhs; whnf) ?_ | refine GL.fieldAddrF I0.mono (o := 0) rfl rfl (by conv => lhs; whnf) ?_
        first | refine GL.load I0.mono rfl rfl rfl rfl (by simp) rfl rfl ?_ | refine GL.loadF I0.mono rfl rfl (em_get (by omega)) rfl ?_
        refine GL.move I0.mono (by conv => lhs; whnf) ?_
        first | refine GL.indexAddrF I0.mono (sz := 3) rfl rfl rfl rfl (by omega) (by first | omega | (rw [em_len]; omega)) (by intro e he; obtain ⟨a, -, rfl⟩ := List.mem_map.1 he; rfl) (by first | with_reducible exact Int.toNat_natCast _ | rfl) ?_ | refine GL.indexAddr I0.mono (sz := 3) rfl rfl rfl rfl rfl rfl rfl rfl (by omega) (by first | omega | (rw [em_len]; omega)) (by first | (conv => lhs; simp only [Nat.zero_add, Int.toNat_natCast]) | rfl) ?_
        first | refine GL.fieldAddr I0.mono (o := 1) rfl rfl rfl rfl (by conv => lhs; whnf) ?_ | refine GL.fieldAddrF I0.mono (o := 1) rfl rfl (by conv => lhs; whnf) ?_
        first | refine GL.load I0.mono rfl rfl rfl rfl (by simp) rfl rfl ?_ | refine GL.loadF I0.mono rfl rfl (em_get (by omega)) rfl ?_
        refine GL.assign I0.mono (by conv => lhs; whnf) ?_
        refine GL.assign I0.mono (by conv => lhs; whnf) ?_
        refine GL.assign I0.mono (by conv => lhs; whnf) ?_
        refine GL.assign I0.mono (by conv => lhs; whnf) ?_
        refine GL.doneF ?_
        refine goOn ?_
        refine Wp.seqI ?_
        refine Wp.seqI ?_
        refine Wp.regI I0.mono ?_
        refine GL.move I0.mono (by conv => lhs; whnf) ?_
        first | refine GL.lenF I0.mono rfl rfl (em_len _ _) ?_ | refine GL.lenO I0.mono rfl rfl rfl rfl ?_ | refine GL.lenN I0.mono rfl rfl ?_
        refine GL.move I0.mono (by conv => lhs; whnf) ?_
        refine GL.doneF ?_
        refine goOn ?_
        refine Wp.blockI ?_
        refine Wp.loopI I0.mono (α := Nat) (fun k st => (k ≤ r.length) ∧ ∃ m0, st = ⟨(updS (updS (updS (updS (updS (updS (updS (updS (updS (updS (updS (fun _ => LV.undef) 2 (.int .i64 c)) 7 (.ref 448 g7 0 0)) 8 (.sl (em ni r))) 9 (.ref 576 g9 0 0)) 11 (.int .i64 (lv I 0 (I.cars.getD c.toNat default).c1 (r.take k)))) 12 (.int .i64 (lastOf 0 (r.take k)))) 13 (.int .i64 (ld I 0 (r.take k)))) 14 (.int .i64 (legs I 0 (r.take k)))) 82 (.sl (em ni r))) 83 (.int .i64 (r.length : Int))) 84 (.int .i64 (k : Int))), effM m0 [(448, ⟨g7, false, .var, 4, [ic I]⟩), (576, ⟨g9, false, .var, 4, [nt T]⟩)]⟩) (fun k => r.length - k) 0 ⟨_, (LessS.weak (LessS.upd (LessS.upd (LessS.upd (LessS.upd (LessS.upd (LessS.upd (LessS.upd (LessS.upd (LessS.upd (LessS.upd (LessS.upd (LessS.nil _) rfl) rfl) rfl) rfl) rfl) rfl) rfl) rfl) rfl) rfl) rfl) _), (Nat.zero_le _), _, (congrArg (St.mk _) (effM_eq (Has.cons rfl (Has.cons rfl Has.nil))).symm)⟩ ?_
        rintro k _ ⟨hi, m0, rfl⟩
        refine Wp.seqI ?_
        refine Wp.regI I0.mono ?_
        refine GL.bin I0.mono rfl ?_
        refine GL.doneF ?_
        refine goOn ?_
        refine Wp.seqI ?_
        refine Wp.condI rfl (fun h85 => ?_) (fun h85 => ?_)
        · first | replace h85 := of_decide_eq_true h85 | replace h85 := bne_true h85 | skip
          obtain ⟨d1, d2, d3, d4, d5, d6, d7, d8, d9, d10, d11, d12, d13, d14, d15, d16, d17, d18, d19, d20, d21, d22, d23, d24, d25⟩ := hD.at' k (by omega)
          obtain ⟨s1, s2, s3, s4, s5, s6, s7⟩ := d25
          refine Wp.skipI ?_
          refine goOn ?_
          refine Wp.seqI ?_
          refine Wp.blockI ?_
          refine Wp.seqI ?_
          refine Wp.regI I0.mono ?_
          refine GL.move I0.mono (by conv => lhs; whnf) ?_
          first | refine GL.indexAddrF I0.mono (sz := 1) rfl rfl rfl rfl (by omega) (by first | omega | (rw [em_len]; omega)) (by intro e he; obtain ⟨a, -, rfl⟩ := List.mem_map.1 he; rfl) (by first | with_reducible exact Int.toNat_natCast _ | rfl) ?_ | refine GL.indexAddr I0.mono (sz := 1) rfl rfl rfl rfl rfl rfl rfl rfl (by omega) (by first | omega | (rw [em_len]; omega)) (by first | (conv => lhs; simp only [Nat.zero_add, Int.toNat_natCast]) | rfl) ?_
          first | refine GL.load I0.mono rfl rfl rfl rfl (by simp) rfl rfl ?_ | refine GL.loadF I0.mono rfl rfl (em_get (by omega)) rfl ?_
          refine GL.assign I0.mono (by conv => lhs; whnf) ?_
          refine GL.assign I0.mono (by conv => lhs; whnf) ?_
          refine GL.doneF ?_
          refine goOn ?_
          refine Wp.seqI ?_
          refine Wp.regI I0.mono ?_
          first | refine GL.fieldAddr I0.mono (o := 1) rfl rfl rfl rfl (by conv => lhs; whnf) ?_ | refine GL.fieldAddrF I0.mono (o := 1) rfl rfl (by conv => lhs; whnf) ?_
          first | refine GL.load I0.mono rfl rfl rfl rfl (by simp) rfl rfl ?_ | refine GL.loadF I0.mono rfl rfl (em_get (by omega)) rfl ?_
          refine GL.move I0.mono (by conv => lhs; whnf) ?_
          first | refine GL.subR I0.mono rfl rfl (by first | omega | assumption) ?_ | refine GL.bin I0.mono rfl ?_
          first | refine GL.indexAddrF I0.mono (sz := 4) rfl rfl rfl rfl (by omega) (by first | omega | (rw [em_len]; omega)) (by intro e he; obtain ⟨a, -, rfl⟩ := List.mem_map.1 he; rfl) (by first | with_reducible exact Int.toNat_natCast _ | rfl) ?_ | refine GL.indexAddr I0.mono (sz := 4) rfl rfl rfl rfl rfl rfl rfl rfl (by omega) (by first | omega | (rw [em_len]; omega)) (by first | (conv => lhs; simp only [Nat.zero_add, Int.toNat_natCast]) | rfl) ?_
          first | refine GL.loadA I0.mono (n := 4) rfl rfl rfl rfl (by simp) rfl rfl (Nat.le_of_ble_eq_true rfl) (by first | (conv => lhs; simp only [List.take_succ_cons, List.take_zero, List.drop_succ_cons, List.drop_zero, List.nil_append, List.cons_append, List.drop_nil, List.append_nil, List.take_nil, List.set_cons_zero, List.set_cons_succ, Nat.zero_add, ni, nr, nc, ns, np, ic, nt, ei, cellsL]) | rfl) ?_ | refine GL.loadFA I0.mono (n := 4) rfl rfl (em_get (by omega)) rfl (Nat.le_of_ble_eq_true rfl) (by first | (conv => lhs; simp only [List.take_succ_cons, List.take_zero, List.drop_succ_cons, List.drop_zero, List.nil_append, List.cons_append, List.drop_nil, List.append_nil, List.take_nil, List.set_cons_zero, List.set_cons_succ, Nat.zero_add, ni, nr, nc, ns, np, ic, nt, ei, cellsL]) | rfl) ?_
          refine GL.alloc I0.mono (cs := [LV.int .i64 0, LV.int .i64 0, LV.int .i64 0, LV.int .i64 0]) rfl rfl ?_
          intro g17
          refine GL.store I0.mono (n := 4) rfl rfl rfl rfl rfl rfl rfl rfl rfl rfl (Nat.le_of_ble_eq_true rfl) (by first | (conv => lhs; simp only [List.take_succ_cons, List.take_zero, List.drop_succ_cons, List.drop_zero, List.nil_append, List.cons_append, List.drop_nil, List.append_nil, List.take_nil, List.set_cons_zero, List.set_cons_succ, Nat.zero_add, ni, nr, nc, ns, np, ic, nt, ei, cellsL]) | rfl) (by first | (conv => lhs; simp only [List.take_succ_cons, List.take_zero, List.drop_succ_cons, List.drop_zero, List.nil_append, List.cons_append, List.drop_nil, List.append_nil, List.take_nil, List.set_cons_zero, List.set_cons_succ, Nat.zero_add, ni, nr, nc, ns, np, ic, nt, ei, cellsL]) | rfl) ?_
          refine GL.doneF ?_
          refine goOn ?_
          refine Wp.seqI ?_
          refine Wp.regI I0.mono ?_
          refine GL.move I0.mono (by conv => lhs; whnf) ?_
          first | refine GL.fieldAddr I0.mono (o := 3) rfl rfl rfl rfl (by conv => lhs; whnf) ?_ | refine GL.fieldAddrF I0.mono (o := 3) rfl rfl (by conv => lhs; whnf) ?_
          first | refine GL.load I0.mono rfl rfl rfl rfl (by simp) rfl rfl ?_ | refine GL.loadF I0.mono rfl rfl (em_get (by omega)) rfl ?_
          refine GL.move I0.mono (by conv => lhs; whnf) ?_
          first | refine GL.indexAddrF I0.mono (sz := 1) rfl rfl rfl rfl (by omega) (by first | omega | (rw [em_len]; omega)) (by intro e he; obtain ⟨a, -, rfl⟩ := List.mem_map.1 he; rfl) (by first | with_reducible exact Int.toNat_natCast _ | rfl) ?_ | refine GL.indexAddr I0.mono (sz := 1) rfl rfl rfl rfl rfl rfl rfl rfl (by omega) (by first | omega | (rw [em_len]; omega)) (by first | (conv => lhs; simp only [Nat.zero_add, Int.toNat_natCast]) | rfl) ?_
          first | refine GL.load I0.mono rfl rfl rfl rfl (by simp) rfl rfl ?_ | refine GL.loadF I0.mono rfl rfl (em_get (by omega)) rfl ?_
          refine GL.move I0.mono (by conv => lhs; whnf) ?_
          first | refine GL.indexAddrF I0.mono (sz := 1) rfl rfl rfl rfl (by omega) (by first | omega | (rw [em_len]; omega)) (by intro e he; obtain ⟨a, -, rfl⟩ := List.mem_map.1 he; rfl) (by first | with_reducible exact Int.toNat_natCast _ | rfl) ?_ | refine GL.indexAddr I0.mono (sz := 1) rfl rfl rfl rfl rfl rfl rfl rfl (by omega) (by first | omega | (rw [em_len]; omega)) (by first | (conv => lhs; simp only [Nat.zero_add, Int.toNat_natCast]) | rfl) ?_
          first | refine GL.load I0.mono rfl rfl rfl rfl (by simp) rfl rfl ?_ | refine GL.loadF I0.mono rfl rfl (em_get (by omega)) rfl ?_
          first | refine GL.addR I0.mono rfl rfl (by first | omega | assumption) ?_ | refine GL.bin I0.mono rfl ?_
          refine GL.assign I0.mono (by conv => lhs; whnf) ?_
          refine GL.doneF ?_
          refine goOn ?_
          refine Wp.seqI ?_
          refine Wp.regI I0.mono ?_
          refine GL.move I0.mono (by conv => lhs; whnf) ?_
          first | refine GL.fieldAddr I0.mono (o := 0) rfl rfl rfl rfl (by conv => lhs; whnf) ?_ | refine GL.fieldAddrF I0.mono (o := 0) rfl rfl (by conv => lhs; whnf) ?_
          first | refine GL.load I0.mono rfl rfl rfl rfl (by simp) rfl rfl ?_ | refine GL.loadF I0.mono rfl rfl (em_get (by omega)) rfl ?_
          first | refine GL.addR I0.mono rfl rfl (by first | omega | assumption) ?_ | refine GL.bin I0.mono rfl ?_
          refine GL.assign I0.mono (by conv => lhs; whnf) ?_
          refine GL.doneF ?_
          refine goOn ?_
          refine Wp.seqI ?_
          refine Wp.regI I0.mono ?_
          refine GL.move I0.mono (by conv => lhs; whnf) ?_
          first | refine GL.fieldAddr I0.mono (o := 3) rfl rfl rfl rfl (by conv => lhs; whnf) ?_ | refine GL.fieldAddrF I0.mono (o := 3) rfl rfl (by conv => lhs; whnf) ?_
          first | refine GL.load I0.mono rfl rfl rfl rfl (by simp) rfl rfl ?_ | refine GL.loadF I0.mono rfl rfl (em_get (by omega)) rfl ?_
          refine GL.move I0.mono (by conv => lhs; whnf) ?_
          first | refine GL.indexAddrF I0.mono (sz := 1) rfl rfl rfl rfl (by omega) (by first | omega | (rw [em_len]; omega)) (by intro e he; obtain ⟨a, -, rfl⟩ := List.mem_map.1 he; rfl) (by first | with_reducible exact Int.toNat_natCast _ | rfl) ?_ | refine GL.indexAddr I0.mono (sz := 1) rfl rfl rfl rfl rfl rfl rfl rfl (by omega) (by first | omega | (rw [em_len]; omega)) (by first | (conv => lhs; simp only [Nat.zero_add, Int.toNat_natCast]) | rfl) ?_
          first | refine GL.load I0.mono rfl rfl rfl rfl (by simp) rfl rfl ?_ | refine GL.loadF I0.mono rfl rfl (em_get (by omega)) rfl ?_
          refine GL.move I0.mono (by conv => lhs; whnf) ?_
          first | refine GL.indexAddrF I0.mono (sz := 1) rfl rfl rfl rfl (by omega) (by first | omega | (rw [em_len]; omega)) (by intro e he; obtain ⟨a, -, rfl⟩ := List.mem_map.1 he; rfl) (by first | with_reducible exact Int.toNat_natCast _ | rfl) ?_ | refine GL.indexAddr I0.mono (sz := 1) rfl rfl rfl rfl rfl rfl rfl rfl (by omega) (by first | omega | (rw [em_len]; omega)) (by first | (conv => lhs; simp only [Nat.zero_add, Int.toNat_natCast]) | rfl) ?_
          first | refine GL.load I0.mono rfl rfl rfl rfl (by simp) rfl rfl ?_ | refine GL.loadF I0.mono rfl rfl (em_get (by omega)) rfl ?_
          first | refine GL.addR I0.mono rfl rfl (by first | omega | assumption) ?_ | refine GL.bin I0.mono rfl ?_
          refine GL.assign I0.mono (by conv => lhs; whnf) ?_
          refine GL.doneF ?_
          refine goOn ?_
          refine Wp.seqI ?_
          refine Wp.seqI ?_
          refine Wp.regD ?_
          first | refine GL.fieldAddr I0.mono (o := 0) rfl rfl rfl rfl (by conv => lhs; whnf) ?_ | refine GL.fieldAddrF I0.mono (o := 0) rfl rfl (by conv => lhs; whnf) ?_
          first | refine GL.load I0.mono rfl rfl rfl rfl (by simp) rfl rfl ?_ | refine GL.loadF I0.mono rfl rfl (em_get (by omega)) rfl ?_
          refine GL.move I0.mono (by conv => lhs; whnf) ?_
          first | refine GL.indexAddrF I0.mono (sz := 1) rfl rfl rfl rfl (by omega) (by first | omega | (rw [em_len]; omega)) (by intro e he; obtain ⟨a, -, rfl⟩ := List.mem_map.1 he; rfl) (by first | with_reducible exact Int.toNat_natCast _ | rfl) ?_ | refine GL.indexAddr I0.mono (sz := 1) rfl rfl rfl rfl rfl rfl rfl rfl (by omega) (by first | omega | (rw [em_len]; omega)) (by first | (conv => lhs; simp only [Nat.zero_add, Int.toNat_natCast]) | rfl) ?_
          first | refine GL.load I0.mono rfl rfl rfl rfl (by simp) rfl rfl ?_ | refine GL.loadF I0.mono rfl rfl (em_get (by omega)) rfl ?_
          first | refine GL.fieldAddr I0.mono (o := 1) rfl rfl rfl rfl (by conv => lhs; whnf) ?_ | refine GL.fieldAddrF I0.mono (o := 1) rfl rfl (by conv => lhs; whnf) ?_
          first | refine GL.load I0.mono rfl rfl rfl rfl (by simp) rfl rfl ?_ | refine GL.loadF I0.mono rfl rfl (em_get (by omega)) rfl ?_
          refine GL.bin I0.mono rfl ?_
          refine GL.move I0.mono (by conv => lhs; whnf) ?_
          refine GL.splitAt 127 rfl (fun h127 => ?_) (fun h127 => ?_)
          · first | rw [h127] | skip
            first | replace h127 := of_decide_eq_true h127 | replace h127 := bne_true h127 | skip
            exact absurd h127 (by omega)
          · first | rw [h127] | skip
            first | replace h127 := of_decide_eq_false h127 | replace h127 := bne_false h127 | skip
            refine GL.guardT rfl ?_
            first | refine GL.fieldAddr I0.mono (o := 0) rfl rfl rfl rfl (by conv => lhs; whnf) ?_ | refine GL.fieldAddrF I0.mono (o := 0) rfl rfl (by conv => lhs; whnf) ?_
            refine GL.guardT rfl ?_
            first | refine GL.load I0.mono rfl rfl rfl rfl (by simp) rfl rfl ?_ | refine GL.loadF I0.mono rfl rfl (em_get (by omega)) rfl ?_
            refine GL.guardT rfl ?_
            refine GL.move I0.mono (by conv => lhs; whnf) ?_
            refine GL.guardT rfl ?_
            first | refine GL.indexAddrF I0.mono (sz := 1) rfl rfl rfl rfl (by omega) (by first | omega | (rw [em_len]; omega)) (by intro e he; obtain ⟨a, -, rfl⟩ := List.mem_map.1 he; rfl) (by first | with_reducible exact Int.toNat_natCast _ | rfl) ?_ | refine GL.indexAddr I0.mono (sz := 1) rfl rfl rfl rfl rfl rfl rfl rfl (by omega) (by first | omega | (rw [em_len]; omega)) (by first | (conv => lhs; simp only [Nat.zero_add, Int.toNat_natCast]) | rfl) ?_
            refine GL.guardT rfl ?_
            first | refine GL.load I0.mono rfl rfl rfl rfl (by simp) rfl rfl ?_ | refine GL.loadF I0.mono rfl rfl (em_get (by omega)) rfl ?_
            refine GL.guardT rfl ?_
            first | refine GL.fieldAddr I0.mono (o := 2) rfl rfl rfl rfl (by conv => lhs; whnf) ?_ | refine GL.fieldAddrF I0.mono (o := 2) rfl rfl (by conv => lhs; whnf) ?_
            refine GL.guardT rfl ?_
            first | refine GL.load I0.mono rfl rfl rfl rfl (by simp) rfl rfl ?_ | refine GL.loadF I0.mono rfl rfl (em_get (by omega)) rfl ?_
            refine GL.guardT rfl ?_
            refine GL.bin I0.mono rfl ?_
            refine GL.pick I0.mono rfl (by conv => lhs; whnf) ?_
            refine GL.move I0.mono (by conv => lhs; whnf) ?_
            refine GL.splitAt 137 rfl (fun h137 => ?_) (fun h137 => ?_)
            · first | rw [h137] | skip
              first | replace h137 := of_decide_eq_true h137 | replace h137 := bne_true h137 | skip
              exact absurd h137 (by omega)
            · first | rw [h137] | skip
              first | replace h137 := of_decide_eq_false h137 | replace h137 := bne_false h137 | skip
              refine GL.guardT rfl ?_
              first | refine GL.fieldAddr I0.mono (o := 0) rfl rfl rfl rfl (by conv => lhs; whnf) ?_ | refine GL.fieldAddrF I0.mono (o := 0) rfl rfl (by conv => lhs; whnf) ?_
              refine GL.guardT rfl ?_
              first | refine GL.load I0.mono rfl rfl rfl rfl (by simp) rfl rfl ?_ | refine GL.loadF I0.mono rfl rfl (em_get (by omega)) rfl ?_
              refine GL.guardT rfl ?_
              refine GL.move I0.mono (by conv => lhs; whnf) ?_
              refine GL.guardT rfl ?_
              first | refine GL.indexAddrF I0.mono (sz := 1) rfl rfl rfl rfl (by omega) (by first | omega | (rw [em_len]; omega)) (by intro e he; obtain ⟨a, -, rfl⟩ := List.mem_map.1 he; rfl) (by first | with_reducible exact Int.toNat_natCast _ | rfl) ?_ | refine GL.indexAddr I0.mono (sz := 1) rfl rfl rfl rfl rfl rfl rfl rfl (by omega) (by first | omega | (rw [em_len]; omega)) (by first | (conv => lhs; simp only [Nat.zero_add, Int.toNat_natCast]) | rfl) ?_
              refine GL.guardT rfl ?_
              first | refine GL.load I0.mono rfl rfl rfl rfl (by simp) rfl rfl ?_ | refine GL.loadF I0.mono rfl rfl (em_get (by omega)) rfl ?_
              refine GL.guardT rfl ?_
              refine GL.move I0.mono (by conv => lhs; whnf) ?_
              refine GL.guardT rfl ?_
              refine GL.bin I0.mono rfl ?_
              refine GL.pick I0.mono rfl (by conv => lhs; whnf) ?_
              refine GL.move I0.mono (by conv => lhs; whnf) ?_
              refine GL.splitAt 146 rfl (fun h146 => ?_) (fun h146 => ?_)
              · first | rw [h146] | skip
                first | replace h146 := of_decide_eq_true h146 | replace h146 := bne_true h146 | skip
                exact absurd h146 (by omega)
              · first | rw [h146] | skip
                first | replace h146 := of_decide_eq_false h146 | replace h146 := bne_false h146 | skip
                refine GL.guardT rfl ?_
                first | refine GL.fieldAddr I0.mono (o := 0) rfl rfl rfl rfl (by conv => lhs; whnf) ?_ | refine GL.fieldAddrF I0.mono (o := 0) rfl rfl (by conv => lhs; whnf) ?_
                refine GL.guardT rfl ?_
                first | refine GL.load I0.mono rfl rfl rfl rfl (by simp) rfl rfl ?_ | refine GL.loadF I0.mono rfl rfl (em_get (by omega)) rfl ?_
                refine GL.guardT rfl ?_
                refine GL.move I0.mono (by conv => lhs; whnf) ?_
                refine GL.guardT rfl ?_
                first | refine GL.indexAddrF I0.mono (sz := 1) rfl rfl rfl rfl (by omega) (by first | omega | (rw [em_len]; omega)) (by intro e he; obtain ⟨a, -, rfl⟩ := List.mem_map.1 he; rfl) (by first | with_reducible exact Int.toNat_natCast _ | rfl) ?_ | refine GL.indexAddr I0.mono (sz := 1) rfl rfl rfl rfl rfl rfl rfl rfl (by omega) (by first | omega | (rw [em_len]; omega)) (by first | (conv => lhs; simp only [Nat.zero_add, Int.toNat_natCast]) | rfl) ?_
                refine GL.guardT rfl ?_
                first | refine GL.load I0.mono rfl rfl rfl rfl (by simp) rfl rfl ?_ | refine GL.loadF I0.mono rfl rfl (em_get (by omega)) rfl ?_
                refine GL.guardT rfl ?_
                refine GL.move I0.mono (by conv => lhs; whnf) ?_
                refine GL.guardT rfl ?_
                refine GL.bin I0.mono rfl ?_
                refine GL.guardT rfl ?_
                refine GL.move I0.mono (by conv => lhs; whnf) ?_
                refine GL.splitAt 154 rfl (fun h154 => ?_) (fun h154 => ?_)
                · first | rw [h154] | skip
                  first | replace h154 := of_decide_eq_true h154 | replace h154 := bne_true h154 | skip
                  refine GL.guardT rfl ?_
                  first | refine GL.fieldAddr I0.mono (o := 0) rfl rfl rfl rfl (by conv => lhs; whnf) ?_ | refine GL.fieldAddrF I0.mono (o := 0) rfl rfl (by conv => lhs; whnf) ?_
                  refine GL.guardT rfl ?_
                  first | refine GL.load I0.mono rfl rfl rfl rfl (by simp) rfl rfl ?_ | refine GL.loadF I0.mono rfl rfl (em_get (by omega)) rfl ?_
                  refine GL.guardT rfl ?_
                  refine GL.move I0.mono (by conv => lhs; whnf) ?_
                  refine GL.guardT rfl ?_
                  first | refine GL.indexAddrF I0.mono (sz := 1) rfl rfl rfl rfl (by omega) (by first | omega | (rw [em_len]; omega)) (by intro e he; obtain ⟨a, -, rfl⟩ := List.mem_map.1 he; rfl) (by first | with_reducible exact Int.toNat_natCast _ | rfl) ?_ | refine GL.indexAddr I0.mono (sz := 1) rfl rfl rfl rfl rfl rfl rfl rfl (by omega) (by first | omega | (rw [em_len]; omega)) (by first | (conv => lhs; simp only [Nat.zero_add, Int.toNat_natCast]) | rfl) ?_
                  refine GL.guardT rfl ?_
                  first | refine GL.load I0.mono rfl rfl rfl rfl (by simp) rfl rfl ?_ | refine GL.loadF I0.mono rfl rfl (em_get (by omega)) rfl ?_
                  refine GL.guardT rfl ?_
                  first | refine GL.fieldAddr I0.mono (o := 1) rfl rfl rfl rfl (by conv => lhs; whnf) ?_ | refine GL.fieldAddrF I0.mono (o := 1) rfl rfl (by conv => lhs; whnf) ?_
                  refine GL.guardT rfl ?_
                  first | refine GL.load I0.mono rfl rfl rfl rfl (by simp) rfl rfl ?_ | refine GL.loadF I0.mono rfl rfl (em_get (by omega)) rfl ?_
                  refine GL.guardT rfl ?_
                  refine GL.bin I0.mono rfl ?_
                  refine GL.guardT rfl ?_
                  refine GL.pick I0.mono rfl (by conv => lhs; whnf) ?_
                  refine GL.pick I0.mono rfl (by conv => lhs; whnf) ?_
                  refine GL.move I0.mono (by conv => lhs; whnf) ?_
                  refine GL.splitAt 165 rfl (fun h165 => ?_) (fun h165 => ?_)
                  · first | rw [h165] | skip
                    first | replace h165 := of_decide_eq_true h165 | replace h165 := bne_true h165 | skip
                    exact absurd h165 (by omega)
                  · first | rw [h165] | skip
                    first | replace h165 := of_decide_eq_false h165 | replace h165 := bne_false h165 | skip
                    refine GL.guardT rfl ?_
                    first | refine GL.fieldAddr I0.mono (o := 1) rfl rfl rfl rfl (by conv => lhs; whnf) ?_ | refine GL.fieldAddrF I0.mono (o := 1) rfl rfl (by conv => lhs; whnf) ?_
                    refine GL.guardT rfl ?_
                    first | refine GL.load I0.mono rfl rfl rfl rfl (by simp) rfl rfl ?_ | refine GL.loadF I0.mono rfl rfl (em_get (by omega)) rfl ?_
                    refine GL.guardT rfl ?_
                    refine GL.move I0.mono (by conv => lhs; whnf) ?_
                    refine GL.guardT rfl ?_
                    first | refine GL.indexAddrF I0.mono (sz := 1) rfl rfl rfl rfl (by omega) (by first | omega | (rw [em_len]; omega)) (by intro e he; obtain ⟨a, -, rfl⟩ := List.mem_map.1 he; rfl) (by first | with_reducible exact Int.toNat_natCast _ | rfl) ?_ | refine GL.indexAddr I0.mono (sz := 1) rfl rfl rfl rfl rfl rfl rfl rfl (by omega) (by first | omega | (rw [em_len]; omega)) (by first | (conv => lhs; simp only [Nat.zero_add, Int.toNat_natCast]) | rfl) ?_
                    refine GL.guardT rfl ?_
                    first | refine GL.load I0.mono rfl rfl rfl rfl (by simp) rfl rfl ?_ | refine GL.loadF I0.mono rfl rfl (em_get (by omega)) rfl ?_
                    refine GL.guardT rfl ?_
                    refine GL.move I0.mono (by conv => lhs; whnf) ?_
                    refine GL.guardT rfl ?_
                    refine GL.bin I0.mono rfl ?_
                    refine GL.pick I0.mono rfl (by conv => lhs; whnf) ?_
                    refine GL.move I0.mono (by conv => lhs; whnf) ?_
                    refine GL.splitAt 174 rfl (fun h174 => ?_) (fun h174 => ?_)
                    · first | rw [h174] | skip
                      first | replace h174 := of_decide_eq_true h174 | replace h174 := bne_true h174 | skip
                      exact absurd h174 (by omega)
                    · first | rw [h174] | skip
                      first | replace h174 := of_decide_eq_false h174 | replace h174 := bne_false h174 | skip
                      refine GL.guardT rfl ?_
                      refine GL.move I0.mono (by conv => lhs; whnf) ?_
                      refine GL.guardT rfl ?_
                      refine GL.bin I0.mono rfl ?_
                      refine GL.pick I0.mono rfl (by conv => lhs; whnf) ?_
                      refine GL.move I0.mono (by conv => lhs; whnf) ?_
                      refine GL.splitAt 178 rfl (fun h178 => ?_) (fun h178 => ?_)
                      · first | rw [h178] | skip
                        first | replace h178 := of_decide_eq_true h178 | replace h178 := bne_true h178 | skip
                        exact absurd h178 (by omega)
                      · first | rw [h178] | skip
                        first | replace h178 := of_decide_eq_false h178 | replace h178 := bne_false h178 | skip
                        refine GL.guardT rfl ?_
                        refine GL.move I0.mono (by conv => lhs; whnf) ?_
                        refine GL.guardT rfl ?_
                        first | refine GL.fieldAddr I0.mono (o := 0) rfl rfl rfl rfl (by conv => lhs; whnf) ?_ | refine GL.fieldAddrF I0.mono (o := 0) rfl rfl (by conv => lhs; whnf) ?_
                        refine GL.guardT rfl ?_
                        first | refine GL.load I0.mono rfl rfl rfl rfl (by simp) rfl rfl ?_ | refine GL.loadF I0.mono rfl rfl (em_get (by omega)) rfl ?_
                        refine GL.guardT rfl ?_
                        refine GL.move I0.mono (by conv => lhs; whnf) ?_
                        refine GL.guardT rfl ?_
                        first | refine GL.indexAddrF I0.mono (sz := 3) rfl rfl rfl rfl (by omega) (by first | omega | (rw [em_len]; omega)) (by intro e he; obtain ⟨a, -, rfl⟩ := List.mem_map.1 he; rfl) (by first | with_reducible exact Int.toNat_natCast _ | rfl) ?_ | refine GL.indexAddr I0.mono (sz := 3) rfl rfl rfl rfl rfl rfl rfl rfl (by omega) (by first | omega | (rw [em_len]; omega)) (by first | (conv => lhs; simp only [Nat.zero_add, Int.toNat_natCast]) | rfl) ?_
                        refine GL.guardT rfl ?_
                        first | refine GL.fieldAddr I0.mono (o := 0) rfl rfl rfl rfl (by conv => lhs; whnf) ?_ | refine GL.fieldAddrF I0.mono (o := 0) rfl rfl (by conv => lhs; whnf) ?_
                        refine GL.guardT rfl ?_
                        first | refine GL.load I0.mono rfl rfl rfl rfl (by simp) rfl rfl ?_ | refine GL.loadF I0.mono rfl rfl (em_get (by omega)) rfl ?_
                        refine GL.guardT rfl ?_
                        refine GL.bin I0.mono rfl ?_
                        refine GL.pick I0.mono rfl (by conv => lhs; whnf) ?_
                        refine GL.doneT (by kernel_rfl) ?_
                        refine goOn ?_
                        refine Wp.condI rfl (fun h187 => ?_) (fun h187 => ?_)
                        · first | replace h187 := of_decide_eq_true h187 | replace h187 := bne_true h187 | skip
                          exact absurd h187 (by omega)
                        · first | replace h187 := of_decide_eq_false h187 | replace h187 := bne_false h187 | skip
                          refine Wp.skipI ?_
                          refine goOn ?_
                          refine Wp.regD ?_
                          first | refine GL.fieldAddr I0.mono (o := 0) rfl rfl rfl rfl (by conv => lhs; whnf) ?_ | refine GL.fieldAddrF I0.mono (o := 0) rfl rfl (by conv => lhs; whnf) ?_
                          first | refine GL.load I0.mono rfl rfl rfl rfl (by simp) rfl rfl ?_ | refine GL.loadF I0.mono rfl rfl (em_get (by omega)) rfl ?_
                          refine GL.move I0.mono (by conv => lhs; whnf) ?_
                          first | refine GL.indexAddrF I0.mono (sz := 1) rfl rfl rfl rfl (by omega) (by first | omega | (rw [em_len]; omega)) (by intro e he; obtain ⟨a, -, rfl⟩ := List.mem_map.1 he; rfl) (by first | with_reducible exact Int.toNat_natCast _ | rfl) ?_ | refine GL.indexAddr I0.mono (sz := 1) rfl rfl rfl rfl rfl rfl rfl rfl (by omega) (by first | omega | (rw [em_len]; omega)) (by first | (conv => lhs; simp only [Nat.zero_add, Int.toNat_natCast]) | rfl) ?_
                          first | refine GL.load I0.mono rfl rfl rfl rfl (by simp) rfl rfl ?_ | refine GL.loadF I0.mono rfl rfl (em_get (by omega)) rfl ?_
                          first | refine GL.fieldAddr I0.mono (o := 3) rfl rfl rfl rfl (by conv => lhs; whnf) ?_ | refine GL.fieldAddrF I0.mono (o := 3) rfl rfl (by conv => lhs; whnf) ?_
                          first | refine GL.load I0.mono rfl rfl rfl rfl (by simp) rfl rfl ?_ | refine GL.loadF I0.mono rfl rfl (em_get (by omega)) rfl ?_
                          first | refine GL.addR I0.mono rfl rfl (by first | omega | assumption) ?_ | refine GL.bin I0.mono rfl ?_
                          refine GL.move I0.mono (by conv => lhs; whnf) ?_
                          refine GL.assign I0.mono (by conv => lhs; whnf) ?_
                          refine GL.assign I0.mono (by conv => lhs; whnf) ?_
                          refine GL.doneT (by kernel_rfl) ?_
                          refine blockX.normal ?_
                          refine goOn ?_
                          refine Wp.regI I0.mono ?_
                          first | refine GL.addR I0.mono rfl rfl (by first | omega | assumption) ?_ | refine GL.bin I0.mono rfl ?_
                          refine GL.move I0.mono (by conv => lhs; whnf) ?_
                          refine GL.doneF ?_
                          refine ⟨k + 1, (by dsimp only; omega), _, (LessS.weak (LessS.upd (LessS.upd (LessS.upd (LessS.upd (LessS.upd (LessS.upd (LessS.upd (LessS.upd (LessS.upd (LessS.upd (LessS.upd (LessS.nil _) rfl) rfl) rfl) rfl) (congrArg (LV.int .i64) d18.symm)) (congrArg (LV.int .i64) d19.symm)) (congrArg (LV.int .i64) d15.symm)) (congrArg (LV.int .i64) d20.symm)) rfl) rfl) rfl) _), (by omega), _, (congrArg (St.mk _) (effM_eq (Has.cons rfl (Has.cons rfl Has.nil))).symm)⟩
                · first | rw [h154] | skip
                  first | replace h154 := of_decide_eq_false h154 | replace h154 := bne_false h154 | skip
                  refine GL.guardF rfl ?_
                  refine GL.guardF rfl ?_
                  refine GL.guardF rfl ?_
                  refine GL.guardF rfl ?_
                  refine GL.guardF rfl ?_
                  refine GL.guardF rfl ?_
                  refine GL.guardF rfl ?_
                  refine GL.guardF rfl ?_
                  refine GL.guardT rfl ?_
                  refine GL.pick I0.mono rfl (by conv => lhs; whnf) ?_
                  refine GL.pick I0.mono rfl (by conv => lhs; whnf) ?_
                  refine GL.move I0.mono (by conv => lhs; whnf) ?_
                  refine GL.guardT rfl ?_
                  first | refine GL.fieldAddr I0.mono (o := 1) rfl rfl rfl rfl (by conv => lhs; whnf) ?_ | refine GL.fieldAddrF I0.mono (o := 1) rfl rfl (by conv => lhs; whnf) ?_
                  refine GL.guardT rfl ?_
                  first | refine GL.load I0.mono rfl rfl rfl rfl (by simp) rfl rfl ?_ | refine GL.loadF I0.mono rfl rfl (em_get (by omega)) rfl ?_
                  refine GL.guardT rfl ?_
                  refine GL.move I0.mono (by conv => lhs; whnf) ?_
                  refine GL.guardT rfl ?_
                  first | refine GL.indexAddrF I0.mono (sz := 1) rfl rfl rfl rfl (by omega) (by first | omega | (rw [em_len]; omega)) (by intro e he; obtain ⟨a, -, rfl⟩ := List.mem_map.1 he; rfl) (by first | with_reducible exact Int.toNat_natCast _ | rfl) ?_ | refine GL.indexAddr I0.mono (sz := 1) rfl rfl rfl rfl rfl rfl rfl rfl (by omega) (by first | omega | (rw [em_len]; omega)) (by first | (conv => lhs; simp only [Nat.zero_add, Int.toNat_natCast]) | rfl) ?_
                  refine GL.guardT rfl ?_
                  first | refine GL.load I0.mono rfl rfl rfl rfl (by simp) rfl rfl ?_ | refine GL.loadF I0.mono rfl rfl (em_get (by omega)) rfl ?_
                  refine GL.guardT rfl ?_
                  refine GL.move I0.mono (by conv => lhs; whnf) ?_
                  refine GL.guardT rfl ?_
                  refine GL.bin I0.mono rfl ?_
                  refine GL.pick I0.mono rfl (by conv => lhs; whnf) ?_
                  refine GL.move I0.mono (by conv => lhs; whnf) ?_
                  refine GL.splitAt 174 rfl (fun h174 => ?_) (fun h174 => ?_)
                  · first | rw [h174] | skip
                    first | replace h174 := of_decide_eq_true h174 | replace h174 := bne_true h174 | skip
                    exact absurd h174 (by omega)
                  · first | rw [h174] | skip
                    first | replace h174 := of_decide_eq_false h174 | replace h174 := bne_false h174 | skip
                    refine GL.guardT rfl ?_
                    refine GL.move I0.mono (by conv => lhs; whnf) ?_
                    refine GL.guardT rfl ?_
                    refine GL.bin I0.mono rfl ?_
                    refine GL.pick I0.mono rfl (by conv => lhs; whnf) ?_
                    refine GL.move I0.mono (by conv => lhs; whnf) ?_
                    refine GL.splitAt 178 rfl (fun h178 => ?_) (fun h178 => ?_)
                    · first | rw [h178] | skip
                      first | replace h178 := of_decide_eq_true h178 | replace h178 := bne_true h178 | skip
                      exact absurd h178 (by omega)
                    · first | rw [h178] | skip
                      first | replace h178 := of_decide_eq_false h178 | replace h178 := bne_false h178 | skip
                      refine GL.guardT rfl ?_
                      refine GL.move I0.mono (by conv => lhs; whnf) ?_
                      refine GL.guardT rfl ?_
                      first | refine GL.fieldAddr I0.mono (o := 0) rfl rfl rfl rfl (by conv => lhs; whnf) ?_ | refine GL.fieldAddrF I0.mono (o := 0) rfl rfl (by conv => lhs; whnf) ?_
                      refine GL.guardT rfl ?_
                      first | refine GL.load I0.mono rfl rfl rfl rfl (by simp) rfl rfl ?_ | refine GL.loadF I0.mono rfl rfl (em_get (by omega)) rfl ?_
                      refine GL.guardT rfl ?_
                      refine GL.move I0.mono (by conv => lhs; whnf) ?_
                      refine GL.guardT rfl ?_
                      first | refine GL.indexAddrF I0.mono (sz := 3) rfl rfl rfl rfl (by omega) (by first | omega | (rw [em_len]; omega)) (by intro e he; obtain ⟨a, -, rfl⟩ := List.mem_map.1 he; rfl) (by first | with_reducible exact Int.toNat_natCast _ | rfl) ?_ | refine GL.indexAddr I0.mono (sz := 3) rfl rfl rfl rfl rfl rfl rfl rfl (by omega) (by first | omega | (rw [em_len]; omega)) (by first | (conv => lhs; simp only [Nat.zero_add, Int.toNat_natCast]) | rfl) ?_
                      refine GL.guardT rfl ?_
                      first | refine GL.fieldAddr I0.mono (o := 0) rfl rfl rfl rfl (by conv => lhs; whnf) ?_ | refine GL.fieldAddrF I0.mono (o := 0) rfl rfl (by conv => lhs; whnf) ?_
                      refine GL.guardT rfl ?_
                      first | refine GL.load I0.mono rfl rfl rfl rfl (by simp) rfl rfl ?_ | refine GL.loadF I0.mono rfl rfl (em_get (by omega)) rfl ?_
                      refine GL.guardT rfl ?_
                      refine GL.bin I0.mono rfl ?_
                      refine GL.pick I0.mono rfl (by conv => lhs; whnf) ?_
                      refine GL.doneT (by kernel_rfl) ?_
                      refine goOn ?_
                      refine Wp.condI rfl (fun h187 => ?_) (fun h187 => ?_)
                      · first | replace h187 := of_decide_eq_true h187 | replace h187 := bne_true h187 | skip
                        exact absurd h187 (by omega)
                      · first | replace h187 := of_decide_eq_false h187 | replace h187 := bne_false h187 | skip
                        refine Wp.skipI ?_
                        refine goOn ?_
                        refine Wp.regD ?_
                        first | refine GL.fieldAddr I0.mono (o := 0) rfl rfl rfl rfl (by conv => lhs; whnf) ?_ | refine GL.fieldAddrF I0.mono (o := 0) rfl rfl (by conv => lhs; whnf) ?_
                        first | refine GL.load I0.mono rfl rfl rfl rfl (by simp) rfl rfl ?_ | refine GL.loadF I0.mono rfl rfl (em_get (by omega)) rfl ?_
                        refine GL.move I0.mono (by conv => lhs; whnf) ?_
                        first | refine GL.indexAddrF I0.mono (sz := 1) rfl rfl rfl rfl (by omega) (by first | omega | (rw [em_len]; omega)) (by intro e he; obtain ⟨a, -, rfl⟩ := List.mem_map.1 he; rfl) (by first | with_reducible exact Int.toNat_natCast _ | rfl) ?_ | refine GL.indexAddr I0.mono (sz := 1) rfl rfl rfl rfl rfl rfl rfl rfl (by omega) (by first | omega | (rw [em_len]; omega)) (by first | (conv => lhs; simp only [Nat.zero_add, Int.toNat_natCast]) | rfl) ?_
                        first | refine GL.load I0.mono rfl rfl rfl rfl (by simp) rfl rfl ?_ | refine GL.loadF I0.mono rfl rfl (em_get (by omega)) rfl ?_
                        first | refine GL.fieldAddr I0.mono (o := 3) rfl rfl rfl rfl (by conv => lhs; whnf) ?_ | refine GL.fieldAddrF I0.mono (o := 3) rfl rfl (by conv => lhs; whnf) ?_
                        first | refine GL.load I0.mono rfl rfl rfl rfl (by simp) rfl rfl ?_ | refine GL.loadF I0.mono rfl rfl (em_get (by omega)) rfl ?_
                        first | refine GL.addR I0.mono rfl rfl (by first | omega | assumption) ?_ | refine GL.bin I0.mono rfl ?_
                        refine GL.move I0.mono (by conv => lhs; whnf) ?_
                        refine GL.assign I0.mono (by conv => lhs; whnf) ?_
                        refine GL.assign I0.mono (by conv => lhs; whnf) ?_
                        refine GL.doneT (by kernel_rfl) ?_
                        refine blockX.normal ?_
                        refine goOn ?_
                        refine Wp.regI I0.mono ?_
                        first | refine GL.addR I0.mono rfl rfl (by first | omega | assumption) ?_ | refine GL.bin I0.mono rfl ?_
                        refine GL.move I0.mono (by conv => lhs; whnf) ?_
                        refine GL.doneF ?_
                        refine ⟨k + 1, (by dsimp only; omega), _, (LessS.weak (LessS.upd (LessS.upd (LessS.upd (LessS.upd (LessS.upd (LessS.upd (LessS.upd (LessS.upd (LessS.upd (LessS.upd (LessS.upd (LessS.nil _) rfl) rfl) rfl) rfl) (congrArg (LV.int .i64) d18.symm)) (congrArg (LV.int .i64) d19.symm)) (congrArg (LV.int .i64) d15.symm)) (congrArg (LV.int .i64) d20.symm)) rfl) rfl) rfl) _), (by omega), _, (congrArg (St.mk _) (effM_eq (Has.cons rfl (Has.cons rfl Has.nil))).symm)⟩
        · first | replace h85 := of_decide_eq_false h85 | replace h85 := bne_false h85 | skip
          obtain rfl : k = r.length := by omega
          rw [List.take_length]
          refine Wp.exitI ?_
          refine thenX.exit ?_
          refine thenX.exit ?_
          refine blockX.out ?_
          refine goOn ?_
          refine Wp.seqI ?_
          refine Wp.regI I0.mono ?_
          refine GL.move I0.mono (by conv => lhs; whnf) ?_
          first | refine GL.fieldAddr I0.mono (o := 3) rfl rfl rfl rfl (by conv => lhs; whnf) ?_ | refine GL.fieldAddrF I0.mono (o := 3) rfl rfl (by conv => lhs; whnf) ?_
          first | refine GL.load I0.mono rfl rfl rfl rfl (by simp) rfl rfl ?_ | refine GL.loadF I0.mono rfl rfl (em_get (by omega)) rfl ?_
          refine GL.move I0.mono (by conv => lhs; whnf) ?_
          first | refine GL.indexAddrF I0.mono (sz := 1) rfl rfl rfl rfl (by omega) (by first | omega | (rw [em_len]; omega)) (by intro e he; obtain ⟨a, -, rfl⟩ := List.mem_map.1 he; rfl) (by first | with_reducible exact Int.toNat_natCast _ | rfl) ?_ | refine GL.indexAddr I0.mono (sz := 1) rfl rfl rfl rfl rfl rfl rfl rfl (by omega) (by first | omega | (rw [em_len]; omega)) (by first | (conv => lhs; simp only [Nat.zero_add, Int.toNat_natCast]) | rfl) ?_
          first | refine GL.load I0.mono rfl rfl rfl rfl (by simp) rfl rfl ?_ | refine GL.loadF I0.mono rfl rfl (em_get (by omega)) rfl ?_
          first | refine GL.indexAddrF I0.mono (sz := 1) rfl rfl rfl rfl (by omega) (by first | omega | (rw [em_len]; omega)) (by intro e he; obtain ⟨a, -, rfl⟩ := List.mem_map.1 he; rfl) (by first | with_reducible exact Int.toNat_natCast _ | rfl) ?_ | refine GL.indexAddr I0.mono (sz := 1) rfl rfl rfl rfl rfl rfl rfl rfl (by omega) (by first | omega | (rw [em_len]; omega)) (by first | (conv => lhs; simp only [Nat.zero_add, Int.toNat_natCast]) | rfl) ?_
          first | refine GL.load I0.mono rfl rfl rfl rfl (by simp) rfl rfl ?_ | refine GL.loadF I0.mono rfl rfl (em_get (by omega)) rfl ?_
          first | refine GL.addR I0.mono rfl rfl (by first | omega | assumption) ?_ | refine GL.bin I0.mono rfl ?_
          refine GL.assign I0.mono (by conv => lhs; whnf) ?_
          refine GL.doneF ?_
          refine goOn ?_
          refine Wp.seqI ?_
          refine Wp.regD ?_
          first | refine GL.fieldAddr I0.mono (o := 3) rfl rfl rfl rfl (by conv => lhs; whnf) ?_ | refine GL.fieldAddrF I0.mono (o := 3) rfl rfl (by conv => lhs; whnf) ?_
          first | refine GL.load I0.mono rfl rfl rfl rfl (by simp) rfl rfl ?_ | refine GL.loadF I0.mono rfl rfl (em_get (by omega)) rfl ?_
          refine GL.move I0.mono (by conv => lhs; whnf) ?_
          refine GL.bin I0.mono rfl ?_
          refine GL.move I0.mono (by conv => lhs; whnf) ?_
          refine GL.splitAt 211 rfl (fun h211 => ?_) (fun h211 => ?_)
          · first | rw [h211] | skip
            first | replace h211 := of_decide_eq_true h211 | replace h211 := bne_true h211 | skip
            refine GL.guardT rfl ?_
            refine GL.move I0.mono (by conv => lhs; whnf) ?_
            refine GL.guardT rfl ?_
            first | refine GL.fieldAddr I0.mono (o := 0) rfl rfl rfl rfl (by conv => lhs; whnf) ?_ | refine GL.fieldAddrF I0.mono (o := 0) rfl rfl (by conv => lhs; whnf) ?_
            refine GL.guardT rfl ?_
            first | refine GL.load I0.mono rfl rfl rfl rfl (by simp) rfl rfl ?_ | refine GL.loadF I0.mono rfl rfl (em_get (by omega)) rfl ?_
            refine GL.guardT rfl ?_
            refine GL.move I0.mono (by conv => lhs; whnf) ?_
            refine GL.guardT rfl ?_
            first | refine GL.indexAddrF I0.mono (sz := 3) rfl rfl rfl rfl (by omega) (by first | omega | (rw [em_len]; omega)) (by intro e he; obtain ⟨a, -, rfl⟩ := List.mem_map.1 he; rfl) (by first | with_reducible exact Int.toNat_natCast _ | rfl) ?_ | refine GL.indexAddr I0.mono (sz := 3) rfl rfl rfl rfl rfl rfl rfl rfl (by omega) (by first | omega | (rw [em_len]; omega)) (by first | (conv => lhs; simp only [Nat.zero_add, Int.toNat_natCast]) | rfl) ?_
            refine GL.guardT rfl ?_
            first | refine GL.fieldAddr I0.mono (o := 2) rfl rfl rfl rfl (by conv => lhs; whnf) ?_ | refine GL.fieldAddrF I0.mono (o := 2) rfl rfl (by conv => lhs; whnf) ?_
            refine GL.guardT rfl ?_
            first | refine GL.load I0.mono rfl rfl rfl rfl (by simp) rfl rfl ?_ | refine GL.loadF I0.mono rfl rfl (em_get (by omega)) rfl ?_
            refine GL.guardT rfl ?_
            refine GL.bin I0.mono rfl ?_
            refine GL.pick I0.mono rfl (by conv => lhs; whnf) ?_
            refine GL.move I0.mono (by conv => lhs; whnf) ?_
            refine GL.splitAt 221 rfl (fun h221 => ?_) (fun h221 => ?_)
            · first | rw [h221] | skip
              first | replace h221 := of_decide_eq_true h221 | replace h221 := bne_true h221 | skip
              refine GL.guardT rfl ?_
              first | refine GL.fieldAddr I0.mono (o := 2) rfl rfl rfl rfl (by conv => lhs; whnf) ?_ | refine GL.fieldAddrF I0.mono (o := 2) rfl rfl (by conv => lhs; whnf) ?_
              refine GL.guardT rfl ?_
              first | refine GL.load I0.mono rfl rfl rfl rfl (by simp) rfl rfl ?_ | refine GL.loadF I0.mono rfl rfl (em_get (by omega)) rfl ?_
              refine GL.guardT rfl ?_
              refine GL.move I0.mono (by conv => lhs; whnf) ?_
              refine GL.guardT rfl ?_
              first | refine GL.fieldAddr I0.mono (o := 3) rfl rfl rfl rfl (by conv => lhs; whnf) ?_ | refine GL.fieldAddrF I0.mono (o := 3) rfl rfl (by conv => lhs; whnf) ?_
              refine GL.guardT rfl ?_
              first | refine GL.load I0.mono rfl rfl rfl rfl (by simp) rfl rfl ?_ | refine GL.loadF I0.mono rfl rfl (em_get (by omega)) rfl ?_
              refine GL.guardT rfl ?_
              refine GL.move I0.mono (by conv => lhs; whnf) ?_
              refine GL.guardT rfl ?_
              first | refine GL.indexAddrF I0.mono (sz := 1) rfl rfl rfl rfl (by omega) (by first | omega | (rw [em_len]; omega)) (by intro e he; obtain ⟨a, -, rfl⟩ := List.mem_map.1 he; rfl) (by first | with_reducible exact Int.toNat_natCast _ | rfl) ?_ | refine GL.indexAddr I0.mono (sz := 1) rfl rfl rfl rfl rfl rfl rfl rfl (by omega) (by first | omega | (rw [em_len]; omega)) (by first | (conv => lhs; simp only [Nat.zero_add, Int.toNat_natCast]) | rfl) ?_
              refine GL.guardT rfl ?_
              first | refine GL.load I0.mono rfl rfl rfl rfl (by simp) rfl rfl ?_ | refine GL.loadF I0.mono rfl rfl (em_get (by omega)) rfl ?_
              refine GL.guardT rfl ?_
              first | refine GL.indexAddrF I0.mono (sz := 1) rfl rfl rfl rfl (by omega) (by first | omega | (rw [em_len]; omega)) (by intro e he; obtain ⟨a, -, rfl⟩ := List.mem_map.1 he; rfl) (by first | with_reducible exact Int.toNat_natCast _ | rfl) ?_ | refine GL.indexAddr I0.mono (sz := 1) rfl rfl rfl rfl rfl rfl rfl rfl (by omega) (by first | omega | (rw [em_len]; omega)) (by first | (conv => lhs; simp only [Nat.zero_add, Int.toNat_natCast]) | rfl) ?_
              refine GL.guardT rfl ?_
              first | refine GL.load I0.mono rfl rfl rfl rfl (by simp) rfl rfl ?_ | refine GL.loadF I0.mono rfl rfl (em_get (by omega)) rfl ?_
              refine GL.guardT rfl ?_
              first | refine GL.addR I0.mono rfl rfl (by first | omega | assumption) ?_ | refine GL.bin I0.mono rfl ?_
              refine GL.guardT rfl ?_
              refine GL.bin I0.mono rfl ?_
              refine GL.pick I0.mono rfl (by conv => lhs; whnf) ?_
              refine GL.move I0.mono (by conv => lhs; whnf) ?_
              refine GL.splitAt 235 rfl (fun h235 => ?_) (fun h235 => ?_)
              · first | rw [h235] | skip
                first | replace h235 := of_decide_eq_true h235 | replace h235 := bne_true h235 | skip
                refine GL.guardT rfl ?_
                first | refine GL.loadA I0.mono (n := 4) rfl rfl rfl rfl (by simp) rfl rfl (Nat.le_of_ble_eq_true rfl) (by first | (conv => lhs; simp only [List.take_succ_cons, List.take_zero, List.drop_succ_cons, List.drop_zero, List.nil_append, List.cons_append, List.drop_nil, List.append_nil, List.take_nil, List.set_cons_zero, List.set_cons_succ, Nat.zero_add, ni, nr, nc, ns, np, ic, nt, ei, cellsL]) | rfl) ?_ | refine GL.loadFA I0.mono (n := 4) rfl rfl (em_get (by omega)) rfl (Nat.le_of_ble_eq_true rfl) (by first | (conv => lhs; simp only [List.take_succ_cons, List.take_zero, List.drop_succ_cons, List.drop_zero, List.nil_append, List.cons_append, List.drop_nil, List.append_nil, List.take_nil, List.set_cons_zero, List.set_cons_succ, Nat.zero_add, ni, nr, nc, ns, np, ic, nt, ei, cellsL]) | rfl) ?_
                refine GL.guardT rfl ?_
                refine GL.move I0.mono (by conv => lhs; whnf) ?_
                refine GL.guardT rfl ?_
                refine GL.call0 I0.mono rfl (Frz.aggc (by first | exact Frz.pure rfl | exact Frz.pures rfl | exact Frz.nils | exact Frz.whole rfl rfl rfl rfl (by first | exact em_len _ _ | (rw [em_len]; omega)) | exact (Frz.aggc (by first | exact Frz.pure rfl | exact Frz.nils | exact Frz.whole rfl rfl rfl rfl (by first | exact em_len _ _ | (rw [em_len]; omega))) (Frz.aggc (by first | exact Frz.pure rfl | exact Frz.nils | exact Frz.whole rfl rfl rfl rfl (by first | exact em_len _ _ | (rw [em_len]; omega))) (Frz.aggc (by first | exact Frz.pure rfl | exact Frz.nils | exact Frz.whole rfl rfl rfl rfl (by first | exact em_len _ _ | (rw [em_len]; omega))) (Frz.aggc (by first | exact Frz.pure rfl | exact Frz.nils | exact Frz.whole rfl rfl rfl rfl (by first | exact em_len _ _ | (rw [em_len]; omega))) Frz.aggn))))) (Frz.aggc (by first | exact Frz.pure rfl | exact Frz.pures rfl | exact Frz.nils | exact Frz.whole rfl rfl rfl rfl (by first | exact em_len _ _ | (rw [em_len]; omega)) | exact (Frz.aggc (by first | exact Frz.pure rfl | exact Frz.nils | exact Frz.whole rfl rfl rfl rfl (by first | exact em_len _ _ | (rw [em_len]; omega))) (Frz.aggc (by first | exact Frz.pure rfl | exact Frz.nils | exact Frz.whole rfl rfl rfl rfl (by first | exact em_len _ _ | (rw [em_len]; omega))) (Frz.aggc (by first | exact Frz.pure rfl | exact Frz.nils | exact Frz.whole rfl rfl rfl rfl (by first | exact em_len _ _ | (rw [em_len]; omega))) (Frz.aggc (by first | exact Frz.pure rfl | exact Frz.nils | exact Frz.whole rfl rfl rfl rfl (by first | exact em_len _ _ | (rw [em_len]; omega))) Frz.aggn))))) (Frz.aggn))) (cost_ok I hb.sq.short r (by unfold Short; omega)) rfl rfl (fun _ => rfl) ?_
                refine GL.guardT rfl ?_
                first | refine GL.fieldAddr I0.mono (o := 2) rfl rfl rfl rfl (by conv => lhs; whnf) ?_ | refine GL.fieldAddrF I0.mono (o := 2) rfl rfl (by conv => lhs; whnf) ?_
                refine GL.guardT rfl ?_
                first | refine GL.load I0.mono rfl rfl rfl rfl (by simp) rfl rfl ?_ | refine GL.loadF I0.mono rfl rfl (em_get (by omega)) rfl ?_
                refine GL.guardT rfl ?_
                refine GL.bin I0.mono rfl ?_
                refine GL.pick I0.mono rfl (by conv => lhs; whnf) ?_
                refine GL.move I0.mono (by conv => lhs; whnf) ?_
                refine GL.splitAt 243 rfl (fun h243 => ?_) (fun h243 => ?_)
                · first | rw [h243] | skip
                  first | replace h243 := of_decide_eq_true h243 | replace h243 := bne_true h243 | skip
                  refine GL.guardT rfl ?_
                  refine GL.call0 I0.mono rfl (Frz.aggn) (wakes_ok) rfl rfl (fun _ => rfl) ?_
                  refine GL.pick I0.mono rfl (by conv => lhs; whnf) ?_
                  refine GL.assign I0.mono (by conv => lhs; whnf) ?_
                  refine GL.doneT (by kernel_rfl) ?_
                  refine goOn ?_
                  refine Wp.retI ?_
                  refine RetX.ret ?_
                  refine ⟨_, _, _, _, .cons (.tmp rfl) .nil, .frz (.pure rfl), List.nodup_nil, by simp, ?_⟩
                  rfl
                · first | rw [h243] | skip
                  first | replace h243 := of_decide_eq_false h243 | replace h243 := bne_false h243 | skip
                  exact absurd h243 (by omega)
              · first | rw [h235] | skip
                first | replace h235 := of_decide_eq_false h235 | replace h235 := bne_false h235 | skip
                exact absurd h235 (by omega)
            · first | rw [h221] | skip
              first | replace h221 := of_decide_eq_false h221 | replace h221 := bne_false h221 | skip
              exact absurd h221 (by omega)
          · first | rw [h211] | skip
            first | replace h211 := of_decide_eq_false h211 | replace h211 := bne_false h211 | skip
            exact absurd h211 (by omega)


theorem law_TripWaits (z0 : List Int) (h0 : Ints z0) (z1 : List Int) (h1 : Ints z1) (n : Int) : CallsV Try.prog 6 [.sl (em ni z0), .sl (em ni z1), .int .i64 n] (.bool true) := by
  have hb := inst_sb z0
  have hci := within_in (a := n) (n := (instOf z0).cars.length) (by have := hb.sq.cars0; omega)
  have hrl := row_short (instOf z0) z1
  refine tw_walk z0 z1 n (instOf z0) (nStops z0) hb (inst_ok z0 h0) (rowOf (instOf z0) z1) (row_ok (instOf z0) hb.sq.short z1 h1) hrl _ rfl _ _ (eval_ok (instOf z0) hb.sq.short _ _ (by unfold Short; omega)) (fun h => ?_) fun h => ?_
  · cases he : eval (instOf z0) (within n (instOf z0).cars.length) (rowOf (instOf z0) z1) with
    | none => rfl
    | some T => rw [he] at h; cases h
  · cases he : eval (instOf z0) (within n (instOf z0).cars.length) (rowOf (instOf z0) z1) with
    | none => rw [he] at h; cases h
    | some T => exact drv_of hb hci.1 hci.2 (by omega) he

end Go.Proofs.Ytpepcfombibpeaa
