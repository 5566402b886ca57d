/- The law of what can be driven when more is let, walked. -/
import Derived.Test.YtpepcfombibpeaaFc
import Derived.Test.YtpepcfombibpeaaFg
import Derived.Test.YtpepcfombibpeaaMv39
import Derived.KernelRfl
set_option linter.unusedVariables false
set_option linter.unusedSimpArgs false
namespace Go.Proofs.Ytpepcfombibpeaa
open Go.Proofs Mv



theorem flat_tripO (o : Option Trip) : FlatI (tripO o) := .tup (.aggc (.aggc (.slo (flat_ni _)) (.aggc (.slo (flat_ni _)) (.aggc (.sca rfl) (.aggc (.sca rfl) .aggn)))) (.aggc (.sca rfl) .aggn))
theorem imp_tripO (m : Mem) (d : Nat) (T : Trip) : impT m d (tripO (some T)) = (.tup [.agg [.own d (genAt m d) 0 T.t0.length none, .own (d + 1) (genAt m (d + 1)) 0 T.t1.length none, .int .i64 T.t2, .int .i64 T.t3], .bool true], [(d, ⟨genAt m d, false, .slc, 1, em ni T.t0⟩), (d + 1, ⟨genAt m (d + 1), false, .slc, 1, em ni T.t1⟩)]) := by
  simp [tripO, impT, impVs, impV, impCs, impC, em_len]
theorem imp_eio (m : Mem) (d : Nat) (i : Inst) : impT m d (eio i) = (.agg [.own d (genAt m d) 0 i.cars.length none, .own (d + 1) (genAt m (d + 1)) 0 i.stops.length none, .own (d + 1 + 1) (genAt m (d + 1 + 1)) 0 i.pairs.length none, .own (d + 1 + 1 + 1) (genAt m (d + 1 + 1 + 1)) 0 i.travel.length none],
    [(d, ⟨genAt m d, false, .slc, 3, em nc i.cars⟩), (d + 1, ⟨genAt m (d + 1), false, .slc, 4, em ns i.stops⟩), (d + 1 + 1, ⟨genAt m (d + 1 + 1), false, .slc, 2, em np i.pairs⟩), (d + 1 + 1 + 1, ⟨genAt m (d + 1 + 1 + 1), false, .slc, 1, em nr i.travel⟩)]) := by
  simp [eio, impT, impV, impCs, impC, em_len]
theorem nb_t' {b : Bool} (h : (!b) = false) : b = true := by simpa using h

set_option maxRecDepth 100000 in
set_option maxHeartbeats 4000000 in
theorem tb_walk (z0 z1 : List Int) (n more : Int) (Z : Inst) (N : Nat) (hb : Sb Z N) (hcl : ∀ a, a < N → 0 ≤ (Z.stops.getD a default).s2) (hI : CallsV Try.prog 29 [.sl (em ni z0)] (ei Z)) (hO : CallsV Try.prog 29 [.sl (em ni z0)] (eio Z)) (r : List Int) (hr : CallsV Try.prog 30 [ei (noPairs Z), .sl (em ni z1)] (.sl (em ni r))) (hrl : r.length ≤ 14) (c : Int) (hc : within n Z.cars.length = c) (T : Trip) (b : Bool) (he : CallsV Try.prog 23 [ei (noPairs Z), .int .i64 c, .sl (em ni r)] (.tup [.agg (nt T), .bool b])) (hl0 : b = true → T.t0.length = r.length ∧ T.t1.length = r.length) (hJ : b = true → CallsV Try.prog 23 [ei (laxInst Z c (within more 9) (within more 99) (within more 50)), .int .i64 c, .sl (em ni r)] (tripO (some T))) (V : Trip) (d : Bool) (hV : CallsV Try.prog 23 [ei (laxEnd Z c (within more 9) (within more 50)), .int .i64 c, .sl (em ni (r.take (within more ((r.length : Int) + 1)).toNat))] (.tup [.agg (nt V), .bool d])) (hV2 : b = true → d = true → V.t0 = T.t0.take (within more ((r.length : Int) + 1)).toNat ∧ V.t1 = T.t1.take (within more ((r.length : Int) + 1)).toNat) : CallsV Try.prog 4 [.sl (em ni z0), .sl (em ni z1), .int .i64 n, .int .i64 more] (.bool true) := by
  refine CallsR.intro (I0.sound _) mix Try.func4 rfl rfl (by simp [Try.f4]) (by kernel_rfl) (nb := 0) ?_
  unfold Try.f4
  have hci := within_in (a := n) (n := Z.cars.length) (by have := hb.sq.cars0; omega)
  rw [hc] at hci
  have hcc := hb.sq.cars1
  have hS := hb.sq.stops
  have hN := hb.sq.high
  have hTr := hb.sq.travel
  have hca := hb.car c.toNat (by omega)
  have hw9 := within_in (a := more) (n := 9) (by decide)
  have hw99 := within_in (a := more) (n := 99) (by decide)
  have hK := within_in (a := more) (n := (r.length : Int) + 1) (by omega)
  have hw50 := within_in (a := more) (n := 50) (by decide)
  refine Wp.seqI ?_
  refine Wp.regI I0.mono ?_
  refine GL.assign I0.mono (by conv => lhs; whnf) ?_
  refine GL.doneF ?_
  refine goOn ?_
  refine Wp.seqI ?_
  refine Wp.regI I0.mono ?_
  refine GL.move I0.mono (by conv => lhs; whnf) ?_
  refine GL.call0 I0.mono rfl (Frz.aggc (by first | exact Frz.pure rfl | exact Frz.pures rfl | exact Frz.nils | exact Frz.whole rfl rfl rfl rfl (by first | exact em_len _ _ | (rw [em_len]; omega)) | exact (Frz.aggc (by first | exact Frz.pure rfl | exact Frz.nils | exact Frz.whole rfl rfl rfl rfl (by first | exact em_len _ _ | (rw [em_len]; omega))) (Frz.aggc (by first | exact Frz.pure rfl | exact Frz.nils | exact Frz.whole rfl rfl rfl rfl (by first | exact em_len _ _ | (rw [em_len]; omega))) (Frz.aggc (by first | exact Frz.pure rfl | exact Frz.nils | exact Frz.whole rfl rfl rfl rfl (by first | exact em_len _ _ | (rw [em_len]; omega))) (Frz.aggc (by first | exact Frz.pure rfl | exact Frz.nils | exact Frz.whole rfl rfl rfl rfl (by first | exact em_len _ _ | (rw [em_len]; omega))) Frz.aggn))))) (Frz.aggn)) (hI) rfl rfl (fun _ => rfl) ?_
  refine GL.alloc I0.mono (cs := [LV.nils, LV.nils, LV.nils, LV.nils]) rfl rfl ?_
  intro g9
  refine GL.store I0.mono (n := 4) rfl rfl rfl rfl rfl rfl rfl rfl rfl rfl (Nat.le_of_ble_eq_true rfl) (by first | (conv => lhs; simp only [List.take_succ_cons, List.take_zero, List.drop_succ_cons, List.drop_zero, List.nil_append, List.cons_append, List.drop_nil, List.append_nil, List.take_nil, List.set_cons_zero, List.set_cons_succ, Nat.zero_add, ni, nr, nc, ns, np, ic, nt, ei, cellsL]) | rfl) (by first | (conv => lhs; simp only [List.take_succ_cons, List.take_zero, List.drop_succ_cons, List.drop_zero, List.nil_append, List.cons_append, List.drop_nil, List.append_nil, List.take_nil, List.set_cons_zero, List.set_cons_succ, Nat.zero_add, ni, nr, nc, ns, np, ic, nt, ei, cellsL]) | rfl) ?_
  refine GL.doneF ?_
  refine goOn ?_
  refine Wp.seqI ?_
  refine Wp.regI I0.mono ?_
  first | refine GL.fieldAddr I0.mono (o := 2) rfl rfl rfl rfl (by conv => lhs; whnf) ?_ | refine GL.fieldAddrF I0.mono (o := 2) rfl rfl (by conv => lhs; whnf) ?_
  refine GL.store I0.mono (n := 1) rfl rfl rfl rfl rfl rfl rfl rfl rfl rfl (Nat.le_of_ble_eq_true rfl) (by first | (conv => lhs; simp only [List.take_succ_cons, List.take_zero, List.drop_succ_cons, List.drop_zero, List.nil_append, List.cons_append, List.drop_nil, List.append_nil, List.take_nil, List.set_cons_zero, List.set_cons_succ, Nat.zero_add, ni, nr, nc, ns, np, ic, nt, ei, cellsL]) | rfl) (by first | (conv => lhs; simp only [List.take_succ_cons, List.take_zero, List.drop_succ_cons, List.drop_zero, List.nil_append, List.cons_append, List.drop_nil, List.append_nil, List.take_nil, List.set_cons_zero, List.set_cons_succ, Nat.zero_add, ni, nr, nc, ns, np, ic, nt, ei, cellsL]) | rfl) ?_
  refine GL.doneF ?_
  refine goOn ?_
  refine Wp.seqI ?_
  refine Wp.regI I0.mono ?_
  refine GL.move I0.mono (by conv => lhs; whnf) ?_
  first | refine GL.fieldAddr I0.mono (o := 0) rfl rfl rfl rfl (by conv => lhs; whnf) ?_ | refine GL.fieldAddrF I0.mono (o := 0) rfl rfl (by conv => lhs; whnf) ?_
  first | refine GL.load I0.mono rfl rfl rfl rfl (by simp) (by first | rfl | exact em_get (by first | omega | (rw [List.length_set]; omega) | (rw [laxStops_len]; omega))) rfl ?_ | refine GL.loadF I0.mono rfl rfl (em_get (by omega)) rfl ?_
  first | refine GL.lenF I0.mono rfl rfl (em_len _ _) ?_ | refine GL.lenO I0.mono rfl rfl rfl rfl ?_ | refine GL.lenN I0.mono rfl rfl ?_
  refine GL.call0 I0.mono rfl (Frz.aggc (by first | exact Frz.pure rfl | exact Frz.pures rfl | exact Frz.nils | exact Frz.whole rfl rfl rfl rfl (by first | exact em_len _ _ | (rw [em_len]; omega)) | exact (Frz.aggc (by first | exact Frz.pure rfl | exact Frz.nils | exact Frz.whole rfl rfl rfl rfl (by first | exact em_len _ _ | (rw [em_len]; omega))) (Frz.aggc (by first | exact Frz.pure rfl | exact Frz.nils | exact Frz.whole rfl rfl rfl rfl (by first | exact em_len _ _ | (rw [em_len]; omega))) (Frz.aggc (by first | exact Frz.pure rfl | exact Frz.nils | exact Frz.whole rfl rfl rfl rfl (by first | exact em_len _ _ | (rw [em_len]; omega))) (Frz.aggc (by first | exact Frz.pure rfl | exact Frz.nils | exact Frz.whole rfl rfl rfl rfl (by first | exact em_len _ _ | (rw [em_len]; omega))) Frz.aggn))))) (Frz.aggc (by first | exact Frz.pure rfl | exact Frz.pures rfl | exact Frz.nils | exact Frz.whole rfl rfl rfl rfl (by first | exact em_len _ _ | (rw [em_len]; omega)) | exact (Frz.aggc (by first | exact Frz.pure rfl | exact Frz.nils | exact Frz.whole rfl rfl rfl rfl (by first | exact em_len _ _ | (rw [em_len]; omega))) (Frz.aggc (by first | exact Frz.pure rfl | exact Frz.nils | exact Frz.whole rfl rfl rfl rfl (by first | exact em_len _ _ | (rw [em_len]; omega))) (Frz.aggc (by first | exact Frz.pure rfl | exact Frz.nils | exact Frz.whole rfl rfl rfl rfl (by first | exact em_len _ _ | (rw [em_len]; omega))) (Frz.aggc (by first | exact Frz.pure rfl | exact Frz.nils | exact Frz.whole rfl rfl rfl rfl (by first | exact em_len _ _ | (rw [em_len]; omega))) Frz.aggn))))) (Frz.aggn))) ((hc ▸ within_ok _ _ (by have := hb.sq.cars1; omega))) rfl rfl (fun _ => rfl) ?_
  refine GL.assign I0.mono (by conv => lhs; whnf) ?_
  refine GL.doneF ?_
  refine goOn ?_
  refine Wp.seqI ?_
  refine Wp.regI I0.mono ?_
  first | refine GL.loadA I0.mono (n := 4) rfl rfl rfl rfl (by simp) (by first | rfl | exact em_get (by first | omega | (rw [List.length_set]; omega) | (rw [laxStops_len]; omega))) rfl (Nat.le_of_ble_eq_true rfl) (by first | (conv => lhs; simp only [List.take_succ_cons, List.take_zero, List.drop_succ_cons, List.drop_zero, List.nil_append, List.cons_append, List.drop_nil, List.append_nil, List.take_nil, List.set_cons_zero, List.set_cons_succ, Nat.zero_add, ni, nr, nc, ns, np, ic, nt, ei, cellsL]) | rfl) ?_ | refine GL.loadFA I0.mono (n := 4) rfl rfl (em_get (by omega)) rfl (Nat.le_of_ble_eq_true rfl) (by first | (conv => lhs; simp only [List.take_succ_cons, List.take_zero, List.drop_succ_cons, List.drop_zero, List.nil_append, List.cons_append, List.drop_nil, List.append_nil, List.take_nil, List.set_cons_zero, List.set_cons_succ, Nat.zero_add, ni, nr, nc, ns, np, ic, nt, ei, cellsL]) | rfl) ?_
  refine GL.move I0.mono (by conv => lhs; whnf) ?_
  refine GL.call0 I0.mono rfl (Frz.aggc (by first | exact Frz.pure rfl | exact Frz.pures rfl | exact Frz.nils | exact Frz.whole rfl rfl rfl rfl (by first | exact em_len _ _ | (rw [em_len]; omega)) | exact (Frz.aggc (by first | exact Frz.pure rfl | exact Frz.nils | exact Frz.whole rfl rfl rfl rfl (by first | exact em_len _ _ | (rw [em_len]; omega))) (Frz.aggc (by first | exact Frz.pure rfl | exact Frz.nils | exact Frz.whole rfl rfl rfl rfl (by first | exact em_len _ _ | (rw [em_len]; omega))) (Frz.aggc (by first | exact Frz.pure rfl | exact Frz.nils | exact Frz.whole rfl rfl rfl rfl (by first | exact em_len _ _ | (rw [em_len]; omega))) (Frz.aggc (by first | exact Frz.pure rfl | exact Frz.nils | exact Frz.whole rfl rfl rfl rfl (by first | exact em_len _ _ | (rw [em_len]; omega))) Frz.aggn))))) (Frz.aggc (by first | exact Frz.pure rfl | exact Frz.pures rfl | exact Frz.nils | exact Frz.whole rfl rfl rfl rfl (by first | exact em_len _ _ | (rw [em_len]; omega)) | exact (Frz.aggc (by first | exact Frz.pure rfl | exact Frz.nils | exact Frz.whole rfl rfl rfl rfl (by first | exact em_len _ _ | (rw [em_len]; omega))) (Frz.aggc (by first | exact Frz.pure rfl | exact Frz.nils | exact Frz.whole rfl rfl rfl rfl (by first | exact em_len _ _ | (rw [em_len]; omega))) (Frz.aggc (by first | exact Frz.pure rfl | exact Frz.nils | exact Frz.whole rfl rfl rfl rfl (by first | exact em_len _ _ | (rw [em_len]; omega))) (Frz.aggc (by first | exact Frz.pure rfl | exact Frz.nils | exact Frz.whole rfl rfl rfl rfl (by first | exact em_len _ _ | (rw [em_len]; omega))) Frz.aggn))))) (Frz.aggn))) (hr) rfl rfl (fun _ => rfl) ?_
  refine GL.assign I0.mono (by conv => lhs; whnf) ?_
  refine GL.doneF ?_
  refine goOn ?_
  refine Wp.seqI ?_
  refine Wp.regI I0.mono ?_
  first | refine GL.loadA I0.mono (n := 4) rfl rfl rfl rfl (by simp) (by first | rfl | exact em_get (by first | omega | (rw [List.length_set]; omega) | (rw [laxStops_len]; omega))) rfl (Nat.le_of_ble_eq_true rfl) (by first | (conv => lhs; simp only [List.take_succ_cons, List.take_zero, List.drop_succ_cons, List.drop_zero, List.nil_append, List.cons_append, List.drop_nil, List.append_nil, List.take_nil, List.set_cons_zero, List.set_cons_succ, Nat.zero_add, ni, nr, nc, ns, np, ic, nt, ei, cellsL]) | rfl) ?_ | refine GL.loadFA I0.mono (n := 4) rfl rfl (em_get (by omega)) rfl (Nat.le_of_ble_eq_true rfl) (by first | (conv => lhs; simp only [List.take_succ_cons, List.take_zero, List.drop_succ_cons, List.drop_zero, List.nil_append, List.cons_append, List.drop_nil, List.append_nil, List.take_nil, List.set_cons_zero, List.set_cons_succ, Nat.zero_add, ni, nr, nc, ns, np, ic, nt, ei, cellsL]) | rfl) ?_
  refine GL.move I0.mono (by conv => lhs; whnf) ?_
  refine GL.move I0.mono (by conv => lhs; whnf) ?_
  refine GL.call0 I0.mono rfl (Frz.aggc (by first | exact Frz.pure rfl | exact Frz.pures rfl | exact Frz.nils | exact Frz.whole rfl rfl rfl rfl (by first | exact em_len _ _ | (rw [em_len]; omega)) | exact (Frz.aggc (by first | exact Frz.pure rfl | exact Frz.nils | exact Frz.whole rfl rfl rfl rfl (by first | exact em_len _ _ | (rw [em_len]; omega))) (Frz.aggc (by first | exact Frz.pure rfl | exact Frz.nils | exact Frz.whole rfl rfl rfl rfl (by first | exact em_len _ _ | (rw [em_len]; omega))) (Frz.aggc (by first | exact Frz.pure rfl | exact Frz.nils | exact Frz.whole rfl rfl rfl rfl (by first | exact em_len _ _ | (rw [em_len]; omega))) (Frz.aggc (by first | exact Frz.pure rfl | exact Frz.nils | exact Frz.whole rfl rfl rfl rfl (by first | exact em_len _ _ | (rw [em_len]; omega))) Frz.aggn))))) (Frz.aggc (by first | exact Frz.pure rfl | exact Frz.pures rfl | exact Frz.nils | exact Frz.whole rfl rfl rfl rfl (by first | exact em_len _ _ | (rw [em_len]; omega)) | exact (Frz.aggc (by first | exact Frz.pure rfl | exact Frz.nils | exact Frz.whole rfl rfl rfl rfl (by first | exact em_len _ _ | (rw [em_len]; omega))) (Frz.aggc (by first | exact Frz.pure rfl | exact Frz.nils | exact Frz.whole rfl rfl rfl rfl (by first | exact em_len _ _ | (rw [em_len]; omega))) (Frz.aggc (by first | exact Frz.pure rfl | exact Frz.nils | exact Frz.whole rfl rfl rfl rfl (by first | exact em_len _ _ | (rw [em_len]; omega))) (Frz.aggc (by first | exact Frz.pure rfl | exact Frz.nils | exact Frz.whole rfl rfl rfl rfl (by first | exact em_len _ _ | (rw [em_len]; omega))) Frz.aggn))))) (Frz.aggc (by first | exact Frz.pure rfl | exact Frz.pures rfl | exact Frz.nils | exact Frz.whole rfl rfl rfl rfl (by first | exact em_len _ _ | (rw [em_len]; omega)) | exact (Frz.aggc (by first | exact Frz.pure rfl | exact Frz.nils | exact Frz.whole rfl rfl rfl rfl (by first | exact em_len _ _ | (rw [em_len]; omega))) (Frz.aggc (by first | exact Frz.pure rfl | exact Frz.nils | exact Frz.whole rfl rfl rfl rfl (by first | exact em_len _ _ | (rw [em_len]; omega))) (Frz.aggc (by first | exact Frz.pure rfl | exact Frz.nils | exact Frz.whole rfl rfl rfl rfl (by first | exact em_len _ _ | (rw [em_len]; omega))) (Frz.aggc (by first | exact Frz.pure rfl | exact Frz.nils | exact Frz.whole rfl rfl rfl rfl (by first | exact em_len _ _ | (rw [em_len]; omega))) Frz.aggn))))) (Frz.aggn)))) (he) rfl rfl (fun _ => rfl) ?_
  refine GL.move I0.mono (by conv => lhs; whnf) ?_
  refine GL.extract I0.mono rfl rfl ?_
  refine GL.extract I0.mono rfl rfl ?_
  refine GL.alloc I0.mono (cs := [LV.nils, LV.nils, LV.int .i64 0, LV.int .i64 0]) rfl rfl ?_
  intro g11
  refine GL.store I0.mono (n := 4) rfl rfl rfl rfl rfl rfl rfl rfl rfl rfl (Nat.le_of_ble_eq_true rfl) (by first | (conv => lhs; simp only [List.take_succ_cons, List.take_zero, List.drop_succ_cons, List.drop_zero, List.nil_append, List.cons_append, List.drop_nil, List.append_nil, List.take_nil, List.set_cons_zero, List.set_cons_succ, Nat.zero_add, ni, nr, nc, ns, np, ic, nt, ei, cellsL]) | rfl) (by first | (conv => lhs; simp only [List.take_succ_cons, List.take_zero, List.drop_succ_cons, List.drop_zero, List.nil_append, List.cons_append, List.drop_nil, List.append_nil, List.take_nil, List.set_cons_zero, List.set_cons_succ, Nat.zero_add, ni, nr, nc, ns, np, ic, nt, ei, cellsL]) | rfl) ?_
  refine GL.assign I0.mono (by conv => lhs; whnf) ?_
  refine GL.doneF ?_
  refine goOn ?_
  refine Wp.seqI ?_
  refine Wp.seqI ?_
  refine Wp.regI I0.mono ?_
  refine GL.move I0.mono (by conv => lhs; whnf) ?_
  refine GL.un I0.mono rfl ?_
  refine GL.doneF ?_
  refine goOn ?_
  refine Wp.condI rfl (fun h39 => ?_) (fun h39 => ?_)
  · first | replace h39 := of_decide_eq_true h39 | replace h39 := bne_true h39 | skip
    refine Wp.seqI ?_
    refine Wp.regI I0.mono ?_
    refine GL.call0 I0.mono rfl (Frz.aggn) (wakes_ok) rfl rfl (fun _ => rfl) ?_
    refine GL.assign I0.mono (by conv => lhs; whnf) ?_
    refine GL.doneF ?_
    refine goOn ?_
    refine Wp.retI ?_
    refine thenX.ret ?_
    refine RetX.ret ?_
    refine ⟨_, _, _, _, .cons (.tmp rfl) .nil, .frz (.pure rfl), List.nodup_nil, by simp, ?_⟩
    rfl
  · first | replace h39 := of_decide_eq_false h39 | replace h39 := bne_false h39 | skip
    obtain ⟨hl0, hl1⟩ := hl0 (nb_t' h39)
    refine Wp.skipI ?_
    refine goOn ?_
    refine Wp.seqI ?_
    refine Wp.regI I0.mono ?_
    refine GL.move I0.mono (by conv => lhs; whnf) ?_
    refine GL.callM I0.mono rfl (Frz.aggc (by first | exact Frz.pure rfl | exact Frz.pures rfl | exact Frz.nils | exact Frz.whole rfl rfl rfl rfl (by first | exact em_len _ _ | (rw [em_len]; omega)) | exact (Frz.aggc (by first | exact Frz.pure rfl | exact Frz.nils | exact Frz.whole rfl rfl rfl rfl (by first | exact em_len _ _ | (rw [em_len]; omega))) (Frz.aggc (by first | exact Frz.pure rfl | exact Frz.nils | exact Frz.whole rfl rfl rfl rfl (by first | exact em_len _ _ | (rw [em_len]; omega))) (Frz.aggc (by first | exact Frz.pure rfl | exact Frz.nils | exact Frz.whole rfl rfl rfl rfl (by first | exact em_len _ _ | (rw [em_len]; omega))) (Frz.aggc (by first | exact Frz.pure rfl | exact Frz.nils | exact Frz.whole rfl rfl rfl rfl (by first | exact em_len _ _ | (rw [em_len]; omega))) Frz.aggn))))) (Frz.aggn)) hO rfl rfl (imp_eio _ _ _) ?_
    refine GL.alloc I0.mono (cs := [LV.nils, LV.nils, LV.nils, LV.nils]) rfl rfl ?_
    intro g13
    refine GL.store I0.mono (n := 4) rfl rfl rfl rfl rfl rfl rfl rfl rfl rfl (Nat.le_of_ble_eq_true rfl) (by first | (conv => lhs; simp only [List.take_succ_cons, List.take_zero, List.drop_succ_cons, List.drop_zero, List.nil_append, List.cons_append, List.drop_nil, List.append_nil, List.take_nil, List.set_cons_zero, List.set_cons_succ, Nat.zero_add, ni, nr, nc, ns, np, ic, nt, ei, cellsL]) | rfl) (by first | (conv => lhs; simp only [List.take_succ_cons, List.take_zero, List.drop_succ_cons, List.drop_zero, List.nil_append, List.cons_append, List.drop_nil, List.append_nil, List.take_nil, List.set_cons_zero, List.set_cons_succ, Nat.zero_add, ni, nr, nc, ns, np, ic, nt, ei, cellsL]) | rfl) ?_
    refine GL.doneF ?_
    refine goOn ?_
    refine Wp.seqI ?_
    refine Wp.regI I0.mono ?_
    first | refine GL.fieldAddr I0.mono (o := 2) rfl rfl rfl rfl (by conv => lhs; whnf) ?_ | refine GL.fieldAddrF I0.mono (o := 2) rfl rfl (by conv => lhs; whnf) ?_
    refine GL.store I0.mono (n := 1) rfl rfl rfl rfl rfl rfl rfl rfl rfl rfl (Nat.le_of_ble_eq_true rfl) (by first | (conv => lhs; simp only [List.take_succ_cons, List.take_zero, List.drop_succ_cons, List.drop_zero, List.nil_append, List.cons_append, List.drop_nil, List.append_nil, List.take_nil, List.set_cons_zero, List.set_cons_succ, Nat.zero_add, ni, nr, nc, ns, np, ic, nt, ei, cellsL]) | rfl) (by first | (conv => lhs; simp only [List.take_succ_cons, List.take_zero, List.drop_succ_cons, List.drop_zero, List.nil_append, List.cons_append, List.drop_nil, List.append_nil, List.take_nil, List.set_cons_zero, List.set_cons_succ, Nat.zero_add, ni, nr, nc, ns, np, ic, nt, ei, cellsL]) | rfl) ?_
    refine GL.doneF ?_
    refine goOn ?_
    refine Wp.seqI ?_
    refine Wp.regD ?_
    first | refine GL.fieldAddr I0.mono (o := 0) rfl rfl rfl rfl (by conv => lhs; whnf) ?_ | refine GL.fieldAddrF I0.mono (o := 0) rfl rfl (by conv => lhs; whnf) ?_
    first | refine GL.load I0.mono rfl rfl rfl rfl (by simp) (by first | rfl | exact em_get (by first | omega | (rw [List.length_set]; omega) | (rw [laxStops_len]; omega))) rfl ?_ | refine GL.loadF I0.mono rfl rfl (em_get (by omega)) rfl ?_
    refine GL.move I0.mono (by conv => lhs; whnf) ?_
    first | refine GL.fieldAddr I0.mono (o := 0) rfl rfl rfl rfl (by conv => lhs; whnf) ?_ | refine GL.fieldAddrF I0.mono (o := 0) rfl rfl (by conv => lhs; whnf) ?_
    first | refine GL.load I0.mono rfl rfl rfl rfl (by simp) (by first | rfl | exact em_get (by first | omega | (rw [List.length_set]; omega) | (rw [laxStops_len]; omega))) rfl ?_ | refine GL.loadF I0.mono rfl rfl (em_get (by omega)) rfl ?_
    refine GL.move I0.mono (by conv => lhs; whnf) ?_
    first | refine GL.indexAddrF I0.mono (sz := 3) rfl rfl rfl rfl (by omega) (by first | omega | (rw [em_len]; omega)) (by intro e he; obtain ⟨a, -, rfl⟩ := List.mem_map.1 he; rfl) (by first | with_reducible exact Int.toNat_natCast _ | rfl) ?_ | refine GL.indexAddr I0.mono (sz := 3) rfl rfl rfl rfl rfl rfl rfl rfl (by omega) (by first | omega | (rw [em_len]; omega)) (by first | (conv => lhs; simp only [Nat.zero_add, Int.toNat_natCast]) | rfl) ?_
    first | refine GL.fieldAddr I0.mono (o := 0) rfl rfl rfl rfl (by conv => lhs; whnf) ?_ | refine GL.fieldAddrF I0.mono (o := 0) rfl rfl (by conv => lhs; whnf) ?_
    first | refine GL.load I0.mono rfl rfl rfl rfl (by simp) (by first | rfl | exact em_get (by first | omega | (rw [List.length_set]; omega) | (rw [laxStops_len]; omega))) rfl ?_ | refine GL.loadF I0.mono rfl rfl (em_get (by omega)) rfl ?_
    refine GL.move I0.mono (by conv => lhs; whnf) ?_
    refine GL.call0 I0.mono rfl (Frz.aggc (by first | exact Frz.pure rfl | exact Frz.pures rfl | exact Frz.nils | exact Frz.whole rfl rfl rfl rfl (by first | exact em_len _ _ | (rw [em_len]; omega)) | exact (Frz.aggc (by first | exact Frz.pure rfl | exact Frz.nils | exact Frz.whole rfl rfl rfl rfl (by first | exact em_len _ _ | (rw [em_len]; omega))) (Frz.aggc (by first | exact Frz.pure rfl | exact Frz.nils | exact Frz.whole rfl rfl rfl rfl (by first | exact em_len _ _ | (rw [em_len]; omega))) (Frz.aggc (by first | exact Frz.pure rfl | exact Frz.nils | exact Frz.whole rfl rfl rfl rfl (by first | exact em_len _ _ | (rw [em_len]; omega))) (Frz.aggc (by first | exact Frz.pure rfl | exact Frz.nils | exact Frz.whole rfl rfl rfl rfl (by first | exact em_len _ _ | (rw [em_len]; omega))) Frz.aggn))))) (Frz.aggc (by first | exact Frz.pure rfl | exact Frz.pures rfl | exact Frz.nils | exact Frz.whole rfl rfl rfl rfl (by first | exact em_len _ _ | (rw [em_len]; omega)) | exact (Frz.aggc (by first | exact Frz.pure rfl | exact Frz.nils | exact Frz.whole rfl rfl rfl rfl (by first | exact em_len _ _ | (rw [em_len]; omega))) (Frz.aggc (by first | exact Frz.pure rfl | exact Frz.nils | exact Frz.whole rfl rfl rfl rfl (by first | exact em_len _ _ | (rw [em_len]; omega))) (Frz.aggc (by first | exact Frz.pure rfl | exact Frz.nils | exact Frz.whole rfl rfl rfl rfl (by first | exact em_len _ _ | (rw [em_len]; omega))) (Frz.aggc (by first | exact Frz.pure rfl | exact Frz.nils | exact Frz.whole rfl rfl rfl rfl (by first | exact em_len _ _ | (rw [em_len]; omega))) Frz.aggn))))) (Frz.aggn))) (within_ok _ _ (by first | decide | omega)) rfl rfl (fun _ => rfl) ?_
    first | refine GL.addR I0.mono rfl rfl (by first | omega | assumption) ?_ | refine GL.bin I0.mono rfl ?_
    refine GL.min I0.mono (v := .int .i64 (imin ((Z.cars.getD c.toNat default).c0 + (within more 9)) 60)) rfl ?_
    first | refine GL.indexAddrF I0.mono (sz := 3) rfl rfl rfl rfl (by omega) (by first | omega | (rw [em_len]; omega)) (by intro e he; obtain ⟨a, -, rfl⟩ := List.mem_map.1 he; rfl) (by first | with_reducible exact Int.toNat_natCast _ | rfl) ?_ | refine GL.indexAddr I0.mono (sz := 3) rfl rfl rfl rfl rfl rfl rfl rfl (by omega) (by first | omega | (rw [em_len]; omega)) (by first | (conv => lhs; simp only [Nat.zero_add, Int.toNat_natCast]) | rfl) ?_
    first | refine GL.fieldAddr I0.mono (o := 0) rfl rfl rfl rfl (by conv => lhs; whnf) ?_ | refine GL.fieldAddrF I0.mono (o := 0) rfl rfl (by conv => lhs; whnf) ?_
    refine GL.storeS I0.mono (n := 1) (es' := em nc (Z.cars.set c.toNat (Car.mk (imin ((Z.cars.getD c.toNat default).c0 + (within more 9)) 60) (Z.cars.getD c.toNat default).c1 (Z.cars.getD c.toNat default).c2))) rfl rfl rfl rfl rfl rfl (em_get (by first | omega | (rw [List.length_set]; omega) | (rw [laxStops_len]; omega))) rfl rfl rfl rfl (Nat.le_of_ble_eq_true rfl) rfl (em_set nc _ _ (Car.mk _ _ _)) ?_
    refine GL.doneT (by kernel_rfl) ?_
    refine goOn ?_
    refine Wp.seqI ?_
    refine Wp.regD ?_
    first | refine GL.fieldAddr I0.mono (o := 0) rfl rfl rfl rfl (by conv => lhs; whnf) ?_ | refine GL.fieldAddrF I0.mono (o := 0) rfl rfl (by conv => lhs; whnf) ?_
    first | refine GL.load I0.mono rfl rfl rfl rfl (by simp) (by first | rfl | exact em_get (by first | omega | (rw [List.length_set]; omega) | (rw [laxStops_len]; omega))) rfl ?_ | refine GL.loadF I0.mono rfl rfl (em_get (by omega)) rfl ?_
    refine GL.move I0.mono (by conv => lhs; whnf) ?_
    first | refine GL.fieldAddr I0.mono (o := 0) rfl rfl rfl rfl (by conv => lhs; whnf) ?_ | refine GL.fieldAddrF I0.mono (o := 0) rfl rfl (by conv => lhs; whnf) ?_
    first | refine GL.load I0.mono rfl rfl rfl rfl (by simp) (by first | rfl | exact em_get (by first | omega | (rw [List.length_set]; omega) | (rw [laxStops_len]; omega))) rfl ?_ | refine GL.loadF I0.mono rfl rfl (em_get (by omega)) rfl ?_
    refine GL.move I0.mono (by conv => lhs; whnf) ?_
    first | refine GL.indexAddrF I0.mono (sz := 3) rfl rfl rfl rfl (by omega) (by first | omega | (rw [em_len]; omega)) (by intro e he; obtain ⟨a, -, rfl⟩ := List.mem_map.1 he; rfl) (by first | with_reducible exact Int.toNat_natCast _ | rfl) ?_ | refine GL.indexAddr I0.mono (sz := 3) rfl rfl rfl rfl rfl rfl rfl rfl (by omega) (by first | omega | (rw [em_len]; omega)) (by first | (conv => lhs; simp only [Nat.zero_add, Int.toNat_natCast]) | rfl) ?_
    first | refine GL.fieldAddr I0.mono (o := 2) rfl rfl rfl rfl (by conv => lhs; whnf) ?_ | refine GL.fieldAddrF I0.mono (o := 2) rfl rfl (by conv => lhs; whnf) ?_
    refine GL.load I0.mono rfl rfl rfl rfl (by simp) (em_get (by rw [List.length_set]; omega)) (v := .int .i64 (Z.cars.getD c.toNat default).c2) (by rw [getD_set_same _ _ _ (show c.toNat < Z.cars.length by omega)]; rfl) ?_
    refine GL.move I0.mono (by conv => lhs; whnf) ?_
    refine GL.call0 I0.mono rfl (Frz.aggc (by first | exact Frz.pure rfl | exact Frz.pures rfl | exact Frz.nils | exact Frz.whole rfl rfl rfl rfl (by first | exact em_len _ _ | (rw [em_len]; omega)) | exact (Frz.aggc (by first | exact Frz.pure rfl | exact Frz.nils | exact Frz.whole rfl rfl rfl rfl (by first | exact em_len _ _ | (rw [em_len]; omega))) (Frz.aggc (by first | exact Frz.pure rfl | exact Frz.nils | exact Frz.whole rfl rfl rfl rfl (by first | exact em_len _ _ | (rw [em_len]; omega))) (Frz.aggc (by first | exact Frz.pure rfl | exact Frz.nils | exact Frz.whole rfl rfl rfl rfl (by first | exact em_len _ _ | (rw [em_len]; omega))) (Frz.aggc (by first | exact Frz.pure rfl | exact Frz.nils | exact Frz.whole rfl rfl rfl rfl (by first | exact em_len _ _ | (rw [em_len]; omega))) Frz.aggn))))) (Frz.aggc (by first | exact Frz.pure rfl | exact Frz.pures rfl | exact Frz.nils | exact Frz.whole rfl rfl rfl rfl (by first | exact em_len _ _ | (rw [em_len]; omega)) | exact (Frz.aggc (by first | exact Frz.pure rfl | exact Frz.nils | exact Frz.whole rfl rfl rfl rfl (by first | exact em_len _ _ | (rw [em_len]; omega))) (Frz.aggc (by first | exact Frz.pure rfl | exact Frz.nils | exact Frz.whole rfl rfl rfl rfl (by first | exact em_len _ _ | (rw [em_len]; omega))) (Frz.aggc (by first | exact Frz.pure rfl | exact Frz.nils | exact Frz.whole rfl rfl rfl rfl (by first | exact em_len _ _ | (rw [em_len]; omega))) (Frz.aggc (by first | exact Frz.pure rfl | exact Frz.nils | exact Frz.whole rfl rfl rfl rfl (by first | exact em_len _ _ | (rw [em_len]; omega))) Frz.aggn))))) (Frz.aggn))) (within_ok _ _ (by first | decide | omega)) rfl rfl (fun _ => rfl) ?_
    first | refine GL.addR I0.mono rfl rfl (by first | omega | assumption) ?_ | refine GL.bin I0.mono rfl ?_
    refine GL.min I0.mono (v := .int .i64 (imin ((Z.cars.getD c.toNat default).c2 + (within more 99)) 1000)) rfl ?_
    first | refine GL.indexAddrF I0.mono (sz := 3) rfl rfl rfl rfl (by omega) (by first | omega | (rw [em_len]; omega)) (by intro e he; obtain ⟨a, -, rfl⟩ := List.mem_map.1 he; rfl) (by first | with_reducible exact Int.toNat_natCast _ | rfl) ?_ | refine GL.indexAddr I0.mono (sz := 3) rfl rfl rfl rfl rfl rfl rfl rfl (by omega) (by first | omega | (rw [em_len]; omega)) (by first | (conv => lhs; simp only [Nat.zero_add, Int.toNat_natCast]) | rfl) ?_
    first | refine GL.fieldAddr I0.mono (o := 2) rfl rfl rfl rfl (by conv => lhs; whnf) ?_ | refine GL.fieldAddrF I0.mono (o := 2) rfl rfl (by conv => lhs; whnf) ?_
    refine GL.storeS I0.mono (n := 1) (es' := em nc (Z.cars.set c.toNat (Car.mk (imin ((Z.cars.getD c.toNat default).c0 + (within more 9)) 60) (Z.cars.getD c.toNat default).c1 (imin ((Z.cars.getD c.toNat default).c2 + (within more 99)) 1000)))) rfl rfl rfl rfl rfl rfl (em_get (by first | omega | (rw [List.length_set]; omega) | (rw [laxStops_len]; omega))) rfl rfl rfl rfl (Nat.le_of_ble_eq_true rfl) rfl (by rw [getD_set_same _ _ _ (show c.toNat < Z.cars.length by omega)]; exact (em_set nc _ _ (Car.mk (imin ((Z.cars.getD c.toNat default).c0 + (within more 9)) 60) (Z.cars.getD c.toNat default).c1 (imin ((Z.cars.getD c.toNat default).c2 + (within more 99)) 1000))).trans (congrArg (em nc) (by rw [List.set_set]))) ?_
    refine GL.doneT (by kernel_rfl) ?_
    refine goOn ?_
    refine Wp.seqI ?_
    refine Wp.seqI ?_
    refine Wp.regI I0.mono ?_
    first | refine GL.fieldAddr I0.mono (o := 1) rfl rfl rfl rfl (by conv => lhs; whnf) ?_ | refine GL.fieldAddrF I0.mono (o := 1) rfl rfl (by conv => lhs; whnf) ?_
    first | refine GL.load I0.mono rfl rfl rfl rfl (by simp) (by first | rfl | exact em_get (by first | omega | (rw [List.length_set]; omega) | (rw [laxStops_len]; omega))) rfl ?_ | refine GL.loadF I0.mono rfl rfl (em_get (by omega)) rfl ?_
    first | refine GL.lenF I0.mono rfl rfl (em_len _ _) ?_ | refine GL.lenO I0.mono rfl rfl rfl rfl ?_ | refine GL.lenN I0.mono rfl rfl ?_
    refine GL.move I0.mono (by conv => lhs; whnf) ?_
    refine GL.doneF ?_
    refine goOn ?_
    refine Wp.blockI ?_
    refine Wp.loopI I0.mono (α := Nat × Nat × Nat × Nat) (fun ⟨k, gc, gs, gt⟩ st => (k ≤ Z.stops.length) ∧ ∃ m0, st = ⟨(updS (updS (updS (updS (updS (updS (updS (updS (updS (fun _ => LV.undef) 2 (.int .i64 c)) 3 (.int .i64 more)) 10 (.sl (em ni r))) 11 (.ref 704 g11 0 0)) 13 (.ref 832 g13 0 0)) 74 (.ref 832 g13 0 1)) 75 (.own 2689 gs 0 Z.stops.length none)) 76 (.int .i64 (Z.stops.length : Int))) 77 (.int .i64 (k : Int))), effM m0 [(704, ⟨g11, false, .var, 4, [nt T]⟩), (832, ⟨g13, false, .var, 4, [[.own 2688 gc 0 Z.cars.length none, .own 2689 gs 0 Z.stops.length none, .nils, .own 2691 gt 0 Z.travel.length none]]⟩), (2688, ⟨gc, false, .slc, 3, em nc (Z.cars.set c.toNat (Car.mk (imin ((Z.cars.getD c.toNat default).c0 + (within more 9)) 60) (Z.cars.getD c.toNat default).c1 (imin ((Z.cars.getD c.toNat default).c2 + (within more 99)) 1000)))⟩), (2689, ⟨gs, false, .slc, 4, em ns (laxStops (within more 50) Z.stops k)⟩), (2691, ⟨gt, false, .slc, 1, em nr Z.travel⟩)]⟩) (fun ⟨k, gc, gs, gt⟩ => Z.stops.length - k) ⟨0, _, _, _⟩ ⟨_, (LessS.weak (LessS.upd (LessS.upd (LessS.upd (LessS.upd (LessS.upd (LessS.upd (LessS.upd (LessS.upd (LessS.upd (LessS.nil _) rfl) rfl) rfl) rfl) rfl) rfl) rfl) rfl) rfl) _), (Nat.zero_le _), _, (congrArg (St.mk _) (effM_eq (Has.cons rfl (Has.cons rfl (Has.cons rfl (Has.cons rfl (Has.cons rfl Has.nil)))))).symm)⟩ ?_
    rintro ⟨k, gc, gs, gt⟩ _ ⟨hi, m0, rfl⟩
    refine Wp.seqI ?_
    refine Wp.regI I0.mono ?_
    refine GL.bin I0.mono rfl ?_
    refine GL.doneF ?_
    refine goOn ?_
    refine Wp.seqI ?_
    refine Wp.condI rfl (fun h78 => ?_) (fun h78 => ?_)
    · first | replace h78 := of_decide_eq_true h78 | replace h78 := bne_true h78 | skip
      have hsk := hb.stop k (by omega)
      have hsl := hcl k (by omega)
      refine Wp.skipI ?_
      refine goOn ?_
      refine Wp.seqI ?_
      refine Wp.blockI ?_
      refine Wp.seqI ?_
      refine Wp.regI I0.mono ?_
      refine GL.move I0.mono (by conv => lhs; whnf) ?_
      refine GL.assign I0.mono (by conv => lhs; whnf) ?_
      refine GL.doneF ?_
      refine goOn ?_
      refine Wp.regD ?_
      first | refine GL.fieldAddr I0.mono (o := 1) rfl rfl rfl rfl (by conv => lhs; whnf) ?_ | refine GL.fieldAddrF I0.mono (o := 1) rfl rfl (by conv => lhs; whnf) ?_
      first | refine GL.load I0.mono rfl rfl rfl rfl (by simp) (by first | rfl | exact em_get (by first | omega | (rw [List.length_set]; omega) | (rw [laxStops_len]; omega))) rfl ?_ | refine GL.loadF I0.mono rfl rfl (em_get (by omega)) rfl ?_
      refine GL.move I0.mono (by conv => lhs; whnf) ?_
      first | refine GL.fieldAddr I0.mono (o := 1) rfl rfl rfl rfl (by conv => lhs; whnf) ?_ | refine GL.fieldAddrF I0.mono (o := 1) rfl rfl (by conv => lhs; whnf) ?_
      first | refine GL.load I0.mono rfl rfl rfl rfl (by simp) (by first | rfl | exact em_get (by first | omega | (rw [List.length_set]; omega) | (rw [laxStops_len]; omega))) rfl ?_ | refine GL.loadF I0.mono rfl rfl (em_get (by omega)) rfl ?_
      refine GL.move I0.mono (by conv => lhs; whnf) ?_
      first | refine GL.indexAddrF I0.mono (sz := 4) rfl rfl rfl rfl (by omega) (by first | omega | (rw [em_len]; omega)) (by intro e he; obtain ⟨a, -, rfl⟩ := List.mem_map.1 he; rfl) (by first | with_reducible exact Int.toNat_natCast _ | rfl) ?_ | refine GL.indexAddr I0.mono (sz := 4) rfl rfl rfl rfl rfl rfl rfl rfl (by omega) (by first | omega | (rw [em_len]; omega)) (by first | (conv => lhs; simp only [Nat.zero_add, Int.toNat_natCast]) | rfl) ?_
      first | refine GL.fieldAddr I0.mono (o := 2) rfl rfl rfl rfl (by conv => lhs; whnf) ?_ | refine GL.fieldAddrF I0.mono (o := 2) rfl rfl (by conv => lhs; whnf) ?_
      refine GL.load I0.mono rfl rfl rfl rfl (by simp) (em_get (by rw [laxStops_len]; omega)) (v := .int .i64 ((laxStops (within more 50) Z.stops k).getD k default).s2) rfl ?_
      rw [laxStops_get _ _ _ _ (show k < Z.stops.length by omega), if_neg (Nat.lt_irrefl k)]
      refine GL.move I0.mono (by conv => lhs; whnf) ?_
      refine GL.call0 I0.mono rfl (Frz.aggc (by first | exact Frz.pure rfl | exact Frz.pures rfl | exact Frz.nils | exact Frz.whole rfl rfl rfl rfl (by first | exact em_len _ _ | (rw [em_len]; omega)) | exact (Frz.aggc (by first | exact Frz.pure rfl | exact Frz.nils | exact Frz.whole rfl rfl rfl rfl (by first | exact em_len _ _ | (rw [em_len]; omega))) (Frz.aggc (by first | exact Frz.pure rfl | exact Frz.nils | exact Frz.whole rfl rfl rfl rfl (by first | exact em_len _ _ | (rw [em_len]; omega))) (Frz.aggc (by first | exact Frz.pure rfl | exact Frz.nils | exact Frz.whole rfl rfl rfl rfl (by first | exact em_len _ _ | (rw [em_len]; omega))) (Frz.aggc (by first | exact Frz.pure rfl | exact Frz.nils | exact Frz.whole rfl rfl rfl rfl (by first | exact em_len _ _ | (rw [em_len]; omega))) Frz.aggn))))) (Frz.aggc (by first | exact Frz.pure rfl | exact Frz.pures rfl | exact Frz.nils | exact Frz.whole rfl rfl rfl rfl (by first | exact em_len _ _ | (rw [em_len]; omega)) | exact (Frz.aggc (by first | exact Frz.pure rfl | exact Frz.nils | exact Frz.whole rfl rfl rfl rfl (by first | exact em_len _ _ | (rw [em_len]; omega))) (Frz.aggc (by first | exact Frz.pure rfl | exact Frz.nils | exact Frz.whole rfl rfl rfl rfl (by first | exact em_len _ _ | (rw [em_len]; omega))) (Frz.aggc (by first | exact Frz.pure rfl | exact Frz.nils | exact Frz.whole rfl rfl rfl rfl (by first | exact em_len _ _ | (rw [em_len]; omega))) (Frz.aggc (by first | exact Frz.pure rfl | exact Frz.nils | exact Frz.whole rfl rfl rfl rfl (by first | exact em_len _ _ | (rw [em_len]; omega))) Frz.aggn))))) (Frz.aggn))) (within_ok _ _ (by first | decide | omega)) rfl rfl (fun _ => rfl) ?_
      refine GL.addR I0.mono rfl rfl (by omega) ?_
      refine GL.min I0.mono (v := .int .i64 (imin ((Z.stops.getD k default).s2 + (within more 50)) 1000)) rfl ?_
      first | refine GL.indexAddrF I0.mono (sz := 4) rfl rfl rfl rfl (by omega) (by first | omega | (rw [em_len]; omega)) (by intro e he; obtain ⟨a, -, rfl⟩ := List.mem_map.1 he; rfl) (by first | with_reducible exact Int.toNat_natCast _ | rfl) ?_ | refine GL.indexAddr I0.mono (sz := 4) rfl rfl rfl rfl rfl rfl rfl rfl (by omega) (by first | omega | (rw [em_len]; omega)) (by first | (conv => lhs; simp only [Nat.zero_add, Int.toNat_natCast]) | rfl) ?_
      first | refine GL.fieldAddr I0.mono (o := 2) rfl rfl rfl rfl (by conv => lhs; whnf) ?_ | refine GL.fieldAddrF I0.mono (o := 2) rfl rfl (by conv => lhs; whnf) ?_
      refine GL.storeS I0.mono (n := 1) (es' := em ns (laxStops (within more 50) Z.stops (k + 1))) rfl rfl rfl rfl rfl rfl (em_get (by first | omega | (rw [List.length_set]; omega) | (rw [laxStops_len]; omega))) rfl rfl rfl rfl (Nat.le_of_ble_eq_true rfl) rfl (by rw [show laxStops (within more 50) Z.stops (k + 1) = (laxStops (within more 50) Z.stops k).set k (laxStop (within more 50) (Z.stops.getD k default)) by rw [laxStops, laxStops_get _ _ _ _ (show k < Z.stops.length by omega), if_neg (Nat.lt_irrefl k)], ← em_set]; rw [laxStops_get _ _ _ _ (show k < Z.stops.length by omega), if_neg (Nat.lt_irrefl k)]; rfl) ?_
      refine GL.doneT (by kernel_rfl) ?_
      refine blockX.normal ?_
      refine goOn ?_
      refine Wp.regI I0.mono ?_
      first | refine GL.addR I0.mono rfl rfl (by first | omega | assumption) ?_ | refine GL.bin I0.mono rfl ?_
      refine GL.move I0.mono (by conv => lhs; whnf) ?_
      refine GL.doneF ?_
      refine ⟨⟨k + 1, _, _, _⟩, (by dsimp only; omega), _, (LessS.weak (LessS.upd (LessS.upd (LessS.upd (LessS.upd (LessS.upd (LessS.upd (LessS.upd (LessS.upd (LessS.upd (LessS.nil _) rfl) rfl) rfl) rfl) rfl) rfl) rfl) rfl) rfl) _), (by omega), _, (congrArg (St.mk _) (effM_eq (Has.cons rfl (Has.cons rfl (Has.cons rfl (Has.cons rfl (Has.cons rfl Has.nil)))))).symm)⟩
    · first | replace h78 := of_decide_eq_false h78 | replace h78 := bne_false h78 | skip
      obtain rfl : k = Z.stops.length := by omega
      refine Wp.exitI ?_
      refine thenX.exit ?_
      refine thenX.exit ?_
      refine blockX.out ?_
      refine goOn ?_
      refine Wp.seqI ?_
      refine Wp.regI I0.mono ?_
      first | refine GL.loadA I0.mono (n := 4) rfl rfl rfl rfl (by simp) (by first | rfl | exact em_get (by first | omega | (rw [List.length_set]; omega) | (rw [laxStops_len]; omega))) rfl (Nat.le_of_ble_eq_true rfl) (by first | (conv => lhs; simp only [List.take_succ_cons, List.take_zero, List.drop_succ_cons, List.drop_zero, List.nil_append, List.cons_append, List.drop_nil, List.append_nil, List.take_nil, List.set_cons_zero, List.set_cons_succ, Nat.zero_add, ni, nr, nc, ns, np, ic, nt, ei, cellsL]) | rfl) ?_ | refine GL.loadFA I0.mono (n := 4) rfl rfl (em_get (by omega)) rfl (Nat.le_of_ble_eq_true rfl) (by first | (conv => lhs; simp only [List.take_succ_cons, List.take_zero, List.drop_succ_cons, List.drop_zero, List.nil_append, List.cons_append, List.drop_nil, List.append_nil, List.take_nil, List.set_cons_zero, List.set_cons_succ, Nat.zero_add, ni, nr, nc, ns, np, ic, nt, ei, cellsL]) | rfl) ?_
      refine GL.move I0.mono (by conv => lhs; whnf) ?_
      refine GL.move I0.mono (by conv => lhs; whnf) ?_
      refine GL.callFl I0.mono rfl (Frz.aggc (Frz.aggc (by first | exact Frz.pure rfl | exact Frz.nils | exact Frz.whole rfl rfl rfl rfl (by first | exact em_len _ _ | (rw [em_len]; show (List.set _ _ _).length = _; rw [List.length_set]) | (rw [em_len]; show (laxStops _ _ _).length = _; rw [laxStops_len]))) (Frz.aggc (by first | exact Frz.pure rfl | exact Frz.nils | exact Frz.whole rfl rfl rfl rfl (by first | exact em_len _ _ | (rw [em_len]; show (List.set _ _ _).length = _; rw [List.length_set]) | (rw [em_len]; show (laxStops _ _ _).length = _; rw [laxStops_len]))) (Frz.aggc (by first | exact Frz.pure rfl | exact Frz.nils | exact Frz.whole rfl rfl rfl rfl (by first | exact em_len _ _ | (rw [em_len]; show (List.set _ _ _).length = _; rw [List.length_set]) | (rw [em_len]; show (laxStops _ _ _).length = _; rw [laxStops_len]))) (Frz.aggc (by first | exact Frz.pure rfl | exact Frz.nils | exact Frz.whole rfl rfl rfl rfl (by first | exact em_len _ _ | (rw [em_len]; show (List.set _ _ _).length = _; rw [List.length_set]) | (rw [em_len]; show (laxStops _ _ _).length = _; rw [laxStops_len]))) Frz.aggn)))) (Frz.aggc (Frz.pure rfl) (Frz.aggc (Frz.pure rfl) Frz.aggn))) (hJ (nb_t' h39)) (flat_tripO _) rfl (imp_tripO _ _ _) ?_
      refine GL.move I0.mono (by conv => lhs; whnf) ?_
      refine GL.extract I0.mono rfl rfl ?_
      refine GL.extract I0.mono rfl rfl ?_
      refine GL.alloc I0.mono (cs := [LV.nils, LV.nils, LV.int .i64 0, LV.int .i64 0]) rfl rfl ?_
      intro g15
      refine GL.store I0.mono (n := 4) rfl rfl rfl rfl rfl rfl rfl rfl rfl rfl (Nat.le_of_ble_eq_true rfl) (by first | (conv => lhs; simp only [List.take_succ_cons, List.take_zero, List.drop_succ_cons, List.drop_zero, List.nil_append, List.cons_append, List.drop_nil, List.append_nil, List.take_nil, List.set_cons_zero, List.set_cons_succ, Nat.zero_add, ni, nr, nc, ns, np, ic, nt, ei, cellsL]) | rfl) (by first | (conv => lhs; simp only [List.take_succ_cons, List.take_zero, List.drop_succ_cons, List.drop_zero, List.nil_append, List.cons_append, List.drop_nil, List.append_nil, List.take_nil, List.set_cons_zero, List.set_cons_succ, Nat.zero_add, ni, nr, nc, ns, np, ic, nt, ei, cellsL]) | rfl) ?_
      refine GL.assign I0.mono (by conv => lhs; whnf) ?_
      refine GL.doneF ?_
      refine goOn ?_
      refine Wp.seqI ?_
      refine Wp.seqI ?_
      refine Wp.regI I0.mono ?_
      refine GL.move I0.mono (by conv => lhs; whnf) ?_
      refine GL.un I0.mono rfl ?_
      refine GL.move I0.mono (by conv => lhs; whnf) ?_
      refine GL.splitAt 105 rfl (fun h105 => ?_) (fun h105 => ?_)
      · first | rw [h105] | skip
        skip
        cases h105
      · first | rw [h105] | skip
        skip
        refine GL.guardT rfl ?_
        first | refine GL.loadA I0.mono (n := 4) rfl rfl rfl rfl (by simp) (by first | rfl | exact em_get (by first | omega | (rw [List.length_set]; omega) | (rw [laxStops_len]; omega))) rfl (Nat.le_of_ble_eq_true rfl) (by first | (conv => lhs; simp only [List.take_succ_cons, List.take_zero, List.drop_succ_cons, List.drop_zero, List.nil_append, List.cons_append, List.drop_nil, List.append_nil, List.take_nil, List.set_cons_zero, List.set_cons_succ, Nat.zero_add, ni, nr, nc, ns, np, ic, nt, ei, cellsL]) | rfl) ?_ | refine GL.loadFA I0.mono (n := 4) rfl rfl (em_get (by omega)) rfl (Nat.le_of_ble_eq_true rfl) (by first | (conv => lhs; simp only [List.take_succ_cons, List.take_zero, List.drop_succ_cons, List.drop_zero, List.nil_append, List.cons_append, List.drop_nil, List.append_nil, List.take_nil, List.set_cons_zero, List.set_cons_succ, Nat.zero_add, ni, nr, nc, ns, np, ic, nt, ei, cellsL]) | rfl) ?_
        refine GL.guardT rfl ?_
        first | refine GL.loadA I0.mono (n := 4) rfl rfl rfl rfl (by simp) (by first | rfl | exact em_get (by first | omega | (rw [List.length_set]; omega) | (rw [laxStops_len]; omega))) rfl (Nat.le_of_ble_eq_true rfl) (by first | (conv => lhs; simp only [List.take_succ_cons, List.take_zero, List.drop_succ_cons, List.drop_zero, List.nil_append, List.cons_append, List.drop_nil, List.append_nil, List.take_nil, List.set_cons_zero, List.set_cons_succ, Nat.zero_add, ni, nr, nc, ns, np, ic, nt, ei, cellsL]) | rfl) ?_ | refine GL.loadFA I0.mono (n := 4) rfl rfl (em_get (by omega)) rfl (Nat.le_of_ble_eq_true rfl) (by first | (conv => lhs; simp only [List.take_succ_cons, List.take_zero, List.drop_succ_cons, List.drop_zero, List.nil_append, List.cons_append, List.drop_nil, List.append_nil, List.take_nil, List.set_cons_zero, List.set_cons_succ, Nat.zero_add, ni, nr, nc, ns, np, ic, nt, ei, cellsL]) | rfl) ?_
        refine GL.guardT rfl ?_
        refine GL.callFl I0.mono rfl (Frz.aggc (Frz.aggc (by first | exact Frz.pure rfl | exact Frz.nils | exact Frz.whole rfl rfl rfl rfl (by first | exact em_len _ _ | (rw [em_len]; show (List.set _ _ _).length = _; rw [List.length_set]) | (rw [em_len]; show (laxStops _ _ _).length = _; rw [laxStops_len]))) (Frz.aggc (by first | exact Frz.pure rfl | exact Frz.nils | exact Frz.whole rfl rfl rfl rfl (by first | exact em_len _ _ | (rw [em_len]; show (List.set _ _ _).length = _; rw [List.length_set]) | (rw [em_len]; show (laxStops _ _ _).length = _; rw [laxStops_len]))) (Frz.aggc (by first | exact Frz.pure rfl | exact Frz.nils | exact Frz.whole rfl rfl rfl rfl (by first | exact em_len _ _ | (rw [em_len]; show (List.set _ _ _).length = _; rw [List.length_set]) | (rw [em_len]; show (laxStops _ _ _).length = _; rw [laxStops_len]))) (Frz.aggc (by first | exact Frz.pure rfl | exact Frz.nils | exact Frz.whole rfl rfl rfl rfl (by first | exact em_len _ _ | (rw [em_len]; show (List.set _ _ _).length = _; rw [List.length_set]) | (rw [em_len]; show (laxStops _ _ _).length = _; rw [laxStops_len]))) Frz.aggn)))) (Frz.aggc (Frz.aggc (by first | exact Frz.pure rfl | exact Frz.nils | exact Frz.whole rfl rfl rfl rfl (by first | exact em_len _ _ | (rw [em_len]; show (List.set _ _ _).length = _; rw [List.length_set]) | (rw [em_len]; show (laxStops _ _ _).length = _; rw [laxStops_len]))) (Frz.aggc (by first | exact Frz.pure rfl | exact Frz.nils | exact Frz.whole rfl rfl rfl rfl (by first | exact em_len _ _ | (rw [em_len]; show (List.set _ _ _).length = _; rw [List.length_set]) | (rw [em_len]; show (laxStops _ _ _).length = _; rw [laxStops_len]))) (Frz.aggc (by first | exact Frz.pure rfl | exact Frz.nils | exact Frz.whole rfl rfl rfl rfl (by first | exact em_len _ _ | (rw [em_len]; show (List.set _ _ _).length = _; rw [List.length_set]) | (rw [em_len]; show (laxStops _ _ _).length = _; rw [laxStops_len]))) (Frz.aggc (by first | exact Frz.pure rfl | exact Frz.nils | exact Frz.whole rfl rfl rfl rfl (by first | exact em_len _ _ | (rw [em_len]; show (List.set _ _ _).length = _; rw [List.length_set]) | (rw [em_len]; show (laxStops _ _ _).length = _; rw [laxStops_len]))) Frz.aggn)))) Frz.aggn)) (tsame_ok T T (by unfold Short; omega) (by unfold Short; omega) (by unfold Short; omega) (by unfold Short; omega)) (FlatI.sca rfl) rfl rfl ?_
        refine GL.guardT rfl ?_
        refine GL.un I0.mono rfl ?_
        refine GL.pick I0.mono rfl (by conv => lhs; whnf) ?_
        refine GL.move I0.mono (by conv => lhs; whnf) ?_
        refine GL.splitAt 111 rfl (fun h111 => ?_) (fun h111 => ?_)
        · first | rw [h111] | skip
          skip
          (simp at h111)
        · first | rw [h111] | skip
          skip
          refine GL.guardT rfl ?_
          first | refine GL.fieldAddr I0.mono (o := 0) rfl rfl rfl rfl (by conv => lhs; whnf) ?_ | refine GL.fieldAddrF I0.mono (o := 0) rfl rfl (by conv => lhs; whnf) ?_
          refine GL.guardT rfl ?_
          first | refine GL.load I0.mono rfl rfl rfl rfl (by simp) (by first | rfl | exact em_get (by first | omega | (rw [List.length_set]; omega) | (rw [laxStops_len]; omega))) rfl ?_ | refine GL.loadF I0.mono rfl rfl (em_get (by omega)) rfl ?_
          refine GL.guardT rfl ?_
          first | refine GL.lenF I0.mono rfl rfl (em_len _ _) ?_ | refine GL.lenO I0.mono rfl rfl rfl rfl ?_ | refine GL.lenN I0.mono rfl rfl ?_
          refine GL.guardT rfl ?_
          refine GL.move I0.mono (by conv => lhs; whnf) ?_
          refine GL.guardT rfl ?_
          first | refine GL.lenF I0.mono rfl rfl (em_len _ _) ?_ | refine GL.lenO I0.mono rfl rfl rfl rfl ?_ | refine GL.lenN I0.mono rfl rfl ?_
          refine GL.guardT rfl ?_
          refine GL.bin I0.mono rfl ?_
          refine GL.pick I0.mono rfl (by conv => lhs; whnf) ?_
          refine GL.move I0.mono (by conv => lhs; whnf) ?_
          refine GL.splitAt 119 rfl (fun h119 => ?_) (fun h119 => ?_)
          · first | rw [h119] | skip
            first | replace h119 := of_decide_eq_true h119 | replace h119 := bne_true h119 | skip
            exact absurd h119 (by omega)
          · first | rw [h119] | skip
            first | replace h119 := of_decide_eq_false h119 | replace h119 := bne_false h119 | skip
            refine GL.guardT rfl ?_
            first | refine GL.fieldAddr I0.mono (o := 1) rfl rfl rfl rfl (by conv => lhs; whnf) ?_ | refine GL.fieldAddrF I0.mono (o := 1) rfl rfl (by conv => lhs; whnf) ?_
            refine GL.guardT rfl ?_
            first | refine GL.load I0.mono rfl rfl rfl rfl (by simp) (by first | rfl | exact em_get (by first | omega | (rw [List.length_set]; omega) | (rw [laxStops_len]; omega))) rfl ?_ | refine GL.loadF I0.mono rfl rfl (em_get (by omega)) rfl ?_
            refine GL.guardT rfl ?_
            first | refine GL.lenF I0.mono rfl rfl (em_len _ _) ?_ | refine GL.lenO I0.mono rfl rfl rfl rfl ?_ | refine GL.lenN I0.mono rfl rfl ?_
            refine GL.guardT rfl ?_
            refine GL.move I0.mono (by conv => lhs; whnf) ?_
            refine GL.guardT rfl ?_
            first | refine GL.lenF I0.mono rfl rfl (em_len _ _) ?_ | refine GL.lenO I0.mono rfl rfl rfl rfl ?_ | refine GL.lenN I0.mono rfl rfl ?_
            refine GL.guardT rfl ?_
            refine GL.bin I0.mono rfl ?_
            refine GL.pick I0.mono rfl (by conv => lhs; whnf) ?_
            refine GL.doneF ?_
            refine goOn ?_
            refine Wp.condI rfl (fun h126 => ?_) (fun h126 => ?_)
            · first | replace h126 := of_decide_eq_true h126 | replace h126 := bne_true h126 | skip
              exact absurd h126 (by omega)
            · first | replace h126 := of_decide_eq_false h126 | replace h126 := bne_false h126 | skip
              refine Wp.skipI ?_
              refine goOn ?_
              refine Wp.seqI ?_
              refine Wp.regI I0.mono ?_
              refine GL.move I0.mono (by conv => lhs; whnf) ?_
              refine GL.move I0.mono (by conv => lhs; whnf) ?_
              first | refine GL.lenF I0.mono rfl rfl (em_len _ _) ?_ | refine GL.lenO I0.mono rfl rfl rfl rfl ?_ | refine GL.lenN I0.mono rfl rfl ?_
              first | refine GL.addR I0.mono rfl rfl (by first | omega | assumption) ?_ | refine GL.bin I0.mono rfl ?_
              refine GL.call0 I0.mono rfl (Frz.aggc (by first | exact Frz.pure rfl | exact Frz.pures rfl | exact Frz.nils | exact Frz.whole rfl rfl rfl rfl (by first | exact em_len _ _ | (rw [em_len]; omega)) | exact (Frz.aggc (by first | exact Frz.pure rfl | exact Frz.nils | exact Frz.whole rfl rfl rfl rfl (by first | exact em_len _ _ | (rw [em_len]; omega))) (Frz.aggc (by first | exact Frz.pure rfl | exact Frz.nils | exact Frz.whole rfl rfl rfl rfl (by first | exact em_len _ _ | (rw [em_len]; omega))) (Frz.aggc (by first | exact Frz.pure rfl | exact Frz.nils | exact Frz.whole rfl rfl rfl rfl (by first | exact em_len _ _ | (rw [em_len]; omega))) (Frz.aggc (by first | exact Frz.pure rfl | exact Frz.nils | exact Frz.whole rfl rfl rfl rfl (by first | exact em_len _ _ | (rw [em_len]; omega))) Frz.aggn))))) (Frz.aggc (by first | exact Frz.pure rfl | exact Frz.pures rfl | exact Frz.nils | exact Frz.whole rfl rfl rfl rfl (by first | exact em_len _ _ | (rw [em_len]; omega)) | exact (Frz.aggc (by first | exact Frz.pure rfl | exact Frz.nils | exact Frz.whole rfl rfl rfl rfl (by first | exact em_len _ _ | (rw [em_len]; omega))) (Frz.aggc (by first | exact Frz.pure rfl | exact Frz.nils | exact Frz.whole rfl rfl rfl rfl (by first | exact em_len _ _ | (rw [em_len]; omega))) (Frz.aggc (by first | exact Frz.pure rfl | exact Frz.nils | exact Frz.whole rfl rfl rfl rfl (by first | exact em_len _ _ | (rw [em_len]; omega))) (Frz.aggc (by first | exact Frz.pure rfl | exact Frz.nils | exact Frz.whole rfl rfl rfl rfl (by first | exact em_len _ _ | (rw [em_len]; omega))) Frz.aggn))))) (Frz.aggn))) (within_ok _ _ (by first | decide | omega)) rfl rfl (fun _ => rfl) ?_
              refine GL.assign I0.mono (by conv => lhs; whnf) ?_
              refine GL.doneF ?_
              refine goOn ?_
              refine Wp.seqI ?_
              refine Wp.regI I0.mono ?_
              first | refine GL.fieldAddr I0.mono (o := 0) rfl rfl rfl rfl (by conv => lhs; whnf) ?_ | refine GL.fieldAddrF I0.mono (o := 0) rfl rfl (by conv => lhs; whnf) ?_
              first | refine GL.load I0.mono rfl rfl rfl rfl (by simp) (by first | rfl | exact em_get (by first | omega | (rw [List.length_set]; omega) | (rw [laxStops_len]; omega))) rfl ?_ | refine GL.loadF I0.mono rfl rfl (em_get (by omega)) rfl ?_
              refine GL.move I0.mono (by conv => lhs; whnf) ?_
              first | refine GL.indexAddrF I0.mono (sz := 3) rfl rfl rfl rfl (by omega) (by first | omega | (rw [em_len]; omega)) (by intro e he; obtain ⟨a, -, rfl⟩ := List.mem_map.1 he; rfl) (by first | with_reducible exact Int.toNat_natCast _ | rfl) ?_ | refine GL.indexAddr I0.mono (sz := 3) rfl rfl rfl rfl rfl rfl rfl rfl (by omega) (by first | omega | (rw [em_len]; omega)) (by first | (conv => lhs; simp only [Nat.zero_add, Int.toNat_natCast]) | rfl) ?_
              first | refine GL.fieldAddr I0.mono (o := 2) rfl rfl rfl rfl (by conv => lhs; whnf) ?_ | refine GL.fieldAddrF I0.mono (o := 2) rfl rfl (by conv => lhs; whnf) ?_
              refine GL.storeS I0.mono (n := 1) (es' := em nc (Z.cars.set c.toNat (Car.mk (imin ((Z.cars.getD c.toNat default).c0 + (within more 9)) 60) (Z.cars.getD c.toNat default).c1 1000))) rfl rfl rfl rfl rfl rfl (em_get (by first | omega | (rw [List.length_set]; omega) | (rw [laxStops_len]; omega))) rfl rfl rfl rfl (Nat.le_of_ble_eq_true rfl) rfl (by rw [getD_set_same _ _ _ (show c.toNat < Z.cars.length by omega)]; exact (em_set nc _ _ (Car.mk (imin ((Z.cars.getD c.toNat default).c0 + (within more 9)) 60) (Z.cars.getD c.toNat default).c1 1000)).trans (congrArg (em nc) (by rw [List.set_set]))) ?_
              refine GL.doneF ?_
              refine goOn ?_
              refine Wp.seqI ?_
              refine Wp.regD ?_
              first | refine GL.loadA I0.mono (n := 4) rfl rfl rfl rfl (by simp) (by first | rfl | exact em_get (by first | omega | (rw [List.length_set]; omega) | (rw [laxStops_len]; omega))) rfl (Nat.le_of_ble_eq_true rfl) (by first | (conv => lhs; simp only [List.take_succ_cons, List.take_zero, List.drop_succ_cons, List.drop_zero, List.nil_append, List.cons_append, List.drop_nil, List.append_nil, List.take_nil, List.set_cons_zero, List.set_cons_succ, Nat.zero_add, ni, nr, nc, ns, np, ic, nt, ei, cellsL]) | rfl) ?_ | refine GL.loadFA I0.mono (n := 4) rfl rfl (em_get (by omega)) rfl (Nat.le_of_ble_eq_true rfl) (by first | (conv => lhs; simp only [List.take_succ_cons, List.take_zero, List.drop_succ_cons, List.drop_zero, List.nil_append, List.cons_append, List.drop_nil, List.append_nil, List.take_nil, List.set_cons_zero, List.set_cons_succ, Nat.zero_add, ni, nr, nc, ns, np, ic, nt, ei, cellsL]) | rfl) ?_
              refine GL.move I0.mono (by conv => lhs; whnf) ?_
              refine GL.move I0.mono (by conv => lhs; whnf) ?_
              refine GL.move I0.mono (by conv => lhs; whnf) ?_
              refine GL.sliceTo I0.mono (sz := 1) rfl rfl rfl rfl (by intro e he; obtain ⟨a, -, rfl⟩ := List.mem_map.1 he; rfl) (by omega) (by omega) (by first | with_reducible exact Int.toNat_natCast _ | rfl) ?_
              refine GL.callMW I0.mono (W := [2688, 2689, 2691]) rfl (Frz.aggc (Frz.aggc (by first | exact Frz.pure rfl | exact Frz.nils | exact Frz.whole rfl rfl rfl rfl (by first | exact em_len _ _ | (rw [em_len]; show (List.set _ _ _).length = _; rw [List.length_set]) | (rw [em_len]; show (laxStops _ _ _).length = _; rw [laxStops_len]))) (Frz.aggc (by first | exact Frz.pure rfl | exact Frz.nils | exact Frz.whole rfl rfl rfl rfl (by first | exact em_len _ _ | (rw [em_len]; show (List.set _ _ _).length = _; rw [List.length_set]) | (rw [em_len]; show (laxStops _ _ _).length = _; rw [laxStops_len]))) (Frz.aggc (by first | exact Frz.pure rfl | exact Frz.nils | exact Frz.whole rfl rfl rfl rfl (by first | exact em_len _ _ | (rw [em_len]; show (List.set _ _ _).length = _; rw [List.length_set]) | (rw [em_len]; show (laxStops _ _ _).length = _; rw [laxStops_len]))) (Frz.aggc (by first | exact Frz.pure rfl | exact Frz.nils | exact Frz.whole rfl rfl rfl rfl (by first | exact em_len _ _ | (rw [em_len]; show (List.set _ _ _).length = _; rw [List.length_set]) | (rw [em_len]; show (laxStops _ _ _).length = _; rw [laxStops_len]))) Frz.aggn)))) (Frz.aggc (Frz.pure rfl) (Frz.aggc (Frz.pure rfl) Frz.aggn))) hV rfl rfl rfl (fun _ => rfl) ?_
              refine GL.move I0.mono (by conv => lhs; whnf) ?_
              refine GL.extract I0.mono rfl rfl ?_
              refine GL.extract I0.mono rfl rfl ?_
              refine GL.alloc I0.mono (cs := [LV.nils, LV.nils, LV.int .i64 0, LV.int .i64 0]) rfl rfl ?_
              intro g18
              refine GL.store I0.mono (n := 4) rfl rfl rfl rfl rfl rfl rfl rfl rfl rfl (Nat.le_of_ble_eq_true rfl) (by first | (conv => lhs; simp only [List.take_succ_cons, List.take_zero, List.drop_succ_cons, List.drop_zero, List.nil_append, List.cons_append, List.drop_nil, List.append_nil, List.take_nil, List.set_cons_zero, List.set_cons_succ, Nat.zero_add, ni, nr, nc, ns, np, ic, nt, ei, cellsL]) | rfl) (by first | (conv => lhs; simp only [List.take_succ_cons, List.take_zero, List.drop_succ_cons, List.drop_zero, List.nil_append, List.cons_append, List.drop_nil, List.append_nil, List.take_nil, List.set_cons_zero, List.set_cons_succ, Nat.zero_add, ni, nr, nc, ns, np, ic, nt, ei, cellsL]) | rfl) ?_
              refine GL.assign I0.mono (by conv => lhs; whnf) ?_
              refine GL.doneT (by kernel_rfl) ?_
              refine goOn ?_
              refine Wp.seqI ?_
              refine Wp.regD ?_
              refine GL.move I0.mono (by conv => lhs; whnf) ?_
              refine GL.un I0.mono rfl ?_
              refine GL.move I0.mono (by conv => lhs; whnf) ?_
              refine GL.splitAt 148 rfl (fun h148 => ?_) (fun h148 => ?_)
              · first | rw [h148] | skip
                skip
                refine GL.guardF rfl ?_
                refine GL.guardF rfl ?_
                refine GL.guardF rfl ?_
                refine GL.guardF rfl ?_
                refine GL.guardF rfl ?_
                refine GL.guardF rfl ?_
                refine GL.guardF rfl ?_
                refine GL.guardF rfl ?_
                refine GL.guardF rfl ?_
                refine GL.guardF rfl ?_
                refine GL.guardF rfl ?_
                refine GL.guardF rfl ?_
                refine GL.guardF rfl ?_
                refine GL.guardF rfl ?_
                refine GL.guardF rfl ?_
                refine GL.guardF rfl ?_
                refine GL.pick I0.mono rfl (by conv => lhs; whnf) ?_
                refine GL.move I0.mono (by conv => lhs; whnf) ?_
                refine GL.guardT rfl ?_
                refine GL.call0 I0.mono rfl (Frz.aggn) (wakes_ok) rfl rfl (fun _ => rfl) ?_
                refine GL.pick I0.mono rfl (by conv => lhs; whnf) ?_
                refine GL.assign I0.mono (by conv => lhs; whnf) ?_
                refine GL.doneT (by kernel_rfl) ?_
                refine goOn ?_
                refine Wp.retI ?_
                refine RetX.ret ?_
                refine ⟨_, _, _, _, .cons (.tmp rfl) .nil, .frz (.pure rfl), List.nodup_nil, by simp, ?_⟩
                rfl
              · first | rw [h148] | skip
                have hVT := hV2 (nb_t' h39) (nb_t' h148)
                refine GL.guardT rfl ?_
                first | refine GL.fieldAddr I0.mono (o := 0) rfl rfl rfl rfl (by conv => lhs; whnf) ?_ | refine GL.fieldAddrF I0.mono (o := 0) rfl rfl (by conv => lhs; whnf) ?_
                refine GL.guardT rfl ?_
                first | refine GL.load I0.mono rfl rfl rfl rfl (by simp) (by first | rfl | exact em_get (by first | omega | (rw [List.length_set]; omega) | (rw [laxStops_len]; omega))) rfl ?_ | refine GL.loadF I0.mono rfl rfl (em_get (by omega)) rfl ?_
                refine GL.guardT rfl ?_
                first | refine GL.fieldAddr I0.mono (o := 0) rfl rfl rfl rfl (by conv => lhs; whnf) ?_ | refine GL.fieldAddrF I0.mono (o := 0) rfl rfl (by conv => lhs; whnf) ?_
                refine GL.guardT rfl ?_
                first | refine GL.load I0.mono rfl rfl rfl rfl (by simp) (by first | rfl | exact em_get (by first | omega | (rw [List.length_set]; omega) | (rw [laxStops_len]; omega))) rfl ?_ | refine GL.loadF I0.mono rfl rfl (em_get (by omega)) rfl ?_
                refine GL.guardT rfl ?_
                refine GL.move I0.mono (by conv => lhs; whnf) ?_
                refine GL.guardT rfl ?_
                refine GL.sliceTo I0.mono (sz := 1) rfl rfl rfl rfl (by intro e he; obtain ⟨a, -, rfl⟩ := List.mem_map.1 he; rfl) (by omega) (by omega) (by first | with_reducible exact Int.toNat_natCast _ | rfl) ?_
                refine GL.guardT rfl ?_
                refine GL.call0 I0.mono rfl (Frz.aggc (by first | exact Frz.pure rfl | exact Frz.pures rfl | exact Frz.nils | exact Frz.whole rfl rfl rfl rfl (by first | exact em_len _ _ | (rw [em_len]; omega)) | exact (Frz.aggc (by first | exact Frz.pure rfl | exact Frz.nils | exact Frz.whole rfl rfl rfl rfl (by first | exact em_len _ _ | (rw [em_len]; omega))) (Frz.aggc (by first | exact Frz.pure rfl | exact Frz.nils | exact Frz.whole rfl rfl rfl rfl (by first | exact em_len _ _ | (rw [em_len]; omega))) (Frz.aggc (by first | exact Frz.pure rfl | exact Frz.nils | exact Frz.whole rfl rfl rfl rfl (by first | exact em_len _ _ | (rw [em_len]; omega))) (Frz.aggc (by first | exact Frz.pure rfl | exact Frz.nils | exact Frz.whole rfl rfl rfl rfl (by first | exact em_len _ _ | (rw [em_len]; omega))) Frz.aggn))))) (Frz.aggc (by first | exact Frz.pure rfl | exact Frz.pures rfl | exact Frz.nils | exact Frz.whole rfl rfl rfl rfl (by first | exact em_len _ _ | (rw [em_len]; omega)) | exact (Frz.aggc (by first | exact Frz.pure rfl | exact Frz.nils | exact Frz.whole rfl rfl rfl rfl (by first | exact em_len _ _ | (rw [em_len]; omega))) (Frz.aggc (by first | exact Frz.pure rfl | exact Frz.nils | exact Frz.whole rfl rfl rfl rfl (by first | exact em_len _ _ | (rw [em_len]; omega))) (Frz.aggc (by first | exact Frz.pure rfl | exact Frz.nils | exact Frz.whole rfl rfl rfl rfl (by first | exact em_len _ _ | (rw [em_len]; omega))) (Frz.aggc (by first | exact Frz.pure rfl | exact Frz.nils | exact Frz.whole rfl rfl rfl rfl (by first | exact em_len _ _ | (rw [em_len]; omega))) Frz.aggn))))) (Frz.aggn))) (same_ok _ _ (by unfold Short; rw [hVT.1, List.length_take]; omega) (by unfold Short; rw [List.length_take]; omega)) rfl rfl (fun _ => rfl) ?_
                refine GL.guardT rfl ?_
                refine GL.move I0.mono (by conv => lhs; whnf) ?_
                refine GL.splitAt 156 rfl (fun h156 => ?_) (fun h156 => ?_)
                · first | rw [h156] | skip
                  first | replace h156 := of_decide_eq_true h156 | replace h156 := bne_true h156 | skip
                  refine GL.guardT rfl ?_
                  first | refine GL.fieldAddr I0.mono (o := 1) rfl rfl rfl rfl (by conv => lhs; whnf) ?_ | refine GL.fieldAddrF I0.mono (o := 1) rfl rfl (by conv => lhs; whnf) ?_
                  refine GL.guardT rfl ?_
                  first | refine GL.load I0.mono rfl rfl rfl rfl (by simp) (by first | rfl | exact em_get (by first | omega | (rw [List.length_set]; omega) | (rw [laxStops_len]; omega))) rfl ?_ | refine GL.loadF I0.mono rfl rfl (em_get (by omega)) rfl ?_
                  refine GL.guardT rfl ?_
                  first | refine GL.fieldAddr I0.mono (o := 1) rfl rfl rfl rfl (by conv => lhs; whnf) ?_ | refine GL.fieldAddrF I0.mono (o := 1) rfl rfl (by conv => lhs; whnf) ?_
                  refine GL.guardT rfl ?_
                  first | refine GL.load I0.mono rfl rfl rfl rfl (by simp) (by first | rfl | exact em_get (by first | omega | (rw [List.length_set]; omega) | (rw [laxStops_len]; omega))) rfl ?_ | refine GL.loadF I0.mono rfl rfl (em_get (by omega)) rfl ?_
                  refine GL.guardT rfl ?_
                  refine GL.move I0.mono (by conv => lhs; whnf) ?_
                  refine GL.guardT rfl ?_
                  refine GL.sliceTo I0.mono (sz := 1) rfl rfl rfl rfl (by intro e he; obtain ⟨a, -, rfl⟩ := List.mem_map.1 he; rfl) (by omega) (by omega) (by first | with_reducible exact Int.toNat_natCast _ | rfl) ?_
                  refine GL.guardT rfl ?_
                  refine GL.call0 I0.mono rfl (Frz.aggc (by first | exact Frz.pure rfl | exact Frz.pures rfl | exact Frz.nils | exact Frz.whole rfl rfl rfl rfl (by first | exact em_len _ _ | (rw [em_len]; omega)) | exact (Frz.aggc (by first | exact Frz.pure rfl | exact Frz.nils | exact Frz.whole rfl rfl rfl rfl (by first | exact em_len _ _ | (rw [em_len]; omega))) (Frz.aggc (by first | exact Frz.pure rfl | exact Frz.nils | exact Frz.whole rfl rfl rfl rfl (by first | exact em_len _ _ | (rw [em_len]; omega))) (Frz.aggc (by first | exact Frz.pure rfl | exact Frz.nils | exact Frz.whole rfl rfl rfl rfl (by first | exact em_len _ _ | (rw [em_len]; omega))) (Frz.aggc (by first | exact Frz.pure rfl | exact Frz.nils | exact Frz.whole rfl rfl rfl rfl (by first | exact em_len _ _ | (rw [em_len]; omega))) Frz.aggn))))) (Frz.aggc (by first | exact Frz.pure rfl | exact Frz.pures rfl | exact Frz.nils | exact Frz.whole rfl rfl rfl rfl (by first | exact em_len _ _ | (rw [em_len]; omega)) | exact (Frz.aggc (by first | exact Frz.pure rfl | exact Frz.nils | exact Frz.whole rfl rfl rfl rfl (by first | exact em_len _ _ | (rw [em_len]; omega))) (Frz.aggc (by first | exact Frz.pure rfl | exact Frz.nils | exact Frz.whole rfl rfl rfl rfl (by first | exact em_len _ _ | (rw [em_len]; omega))) (Frz.aggc (by first | exact Frz.pure rfl | exact Frz.nils | exact Frz.whole rfl rfl rfl rfl (by first | exact em_len _ _ | (rw [em_len]; omega))) (Frz.aggc (by first | exact Frz.pure rfl | exact Frz.nils | exact Frz.whole rfl rfl rfl rfl (by first | exact em_len _ _ | (rw [em_len]; omega))) Frz.aggn))))) (Frz.aggn))) (same_ok _ _ (by unfold Short; rw [hVT.2, List.length_take]; omega) (by unfold Short; rw [List.length_take]; omega)) rfl rfl (fun _ => rfl) ?_
                  refine GL.guardT rfl ?_
                  refine GL.pick I0.mono rfl (by conv => lhs; whnf) ?_
                  refine GL.pick I0.mono rfl (by conv => lhs; whnf) ?_
                  refine GL.move I0.mono (by conv => lhs; whnf) ?_
                  refine GL.splitAt 166 rfl (fun h166 => ?_) (fun h166 => ?_)
                  · first | rw [h166] | skip
                    first | replace h166 := of_decide_eq_true h166 | replace h166 := bne_true h166 | skip
                    refine GL.guardT rfl ?_
                    refine GL.call0 I0.mono rfl (Frz.aggn) (wakes_ok) rfl rfl (fun _ => rfl) ?_
                    refine GL.pick I0.mono rfl (by conv => lhs; whnf) ?_
                    refine GL.assign I0.mono (by conv => lhs; whnf) ?_
                    refine GL.doneT (by kernel_rfl) ?_
                    refine goOn ?_
                    refine Wp.retI ?_
                    refine RetX.ret ?_
                    refine ⟨_, _, _, _, .cons (.tmp rfl) .nil, .frz (.pure rfl), List.nodup_nil, by simp, ?_⟩
                    rfl
                  · first | rw [h166] | skip
                    first | replace h166 := of_decide_eq_false h166 | replace h166 := bne_false h166 | skip
                    exact absurd hVT.2 h166
                · first | rw [h156] | skip
                  first | replace h156 := of_decide_eq_false h156 | replace h156 := bne_false h156 | skip
                  exact absurd hVT.1 h156


theorem inst_cap (z : List Int) {c : Nat} (h : c < (instOf z).cars.length) : ((instOf z).cars.getD c default).c0 ≤ 60 := by
  rw [inst_cars] at h
  have : (instOf z).cars.getD c default = carOf z c := by simp [instOf, cars, h]
  rw [this]
  exact nth4 (Q := fun n => n ≤ 60) (by decide) (by decide) (by decide) (by decide) (within4 _)
theorem stopOf_close (z : List Int) (k : Int) : 0 ≤ (stopOf z k).s2 := by
  have h3 := within_in (a := (num z (5 + k)).tdiv 8) (n := 30) (by decide)
  have h4 : 0 ≤ ([900, 60, 25, 8] : List Int).getD (within ((num z (5 + k)).tdiv 7) 4).toNat default := nth4 (Q := fun n => 0 ≤ n) (by decide) (by decide) (by decide) (by decide) (within4 _)
  have := imin_le (within ((num z (5 + k)).tdiv 8) 30 + ([900, 60, 25, 8] : List Int).getD (within ((num z (5 + k)).tdiv 7) 4).toNat default) 1000
  show 0 ≤ imin (within ((num z (5 + k)).tdiv 8) 30 + ([900, 60, 25, 8] : List Int).getD (within ((num z (5 + k)).tdiv 7) 4).toNat default) 1000
  omega
theorem setQ_close {l : List Stop} (h : ∀ a, a < l.length → 0 ≤ (l.getD a default).s2) (j : Nat) (q : Int) : ∀ a, a < (setQ l j q).length → 0 ≤ ((setQ l j q).getD a default).s2 := by
  intro a ha
  rw [setQ_len] at ha
  unfold setQ
  rw [getD_set _ _ _ _ ha]
  by_cases e : j = a
  · subst e
    rw [if_pos rfl]
    exact h j ha
  · rw [if_neg e]
    exact h a ha
theorem stopsK_close {z : List Int} {l : List Stop} (h : ∀ a, a < l.length → 0 ≤ (l.getD a default).s2) : ∀ k a, a < (stopsK z l k).length → 0 ≤ ((stopsK z l k).getD a default).s2
  | 0 => h
  | k + 1 => setQ_close (setQ_close (stopsK_close h k) _ _) _ _
theorem inst_close (z : List Int) : ∀ a, a < nStops z → 0 ≤ ((instOf z).stops.getD a default).s2 := fun a ha => by
  refine stopsK_close (z := z) (fun a ha => ?_) (nPairs z) a (by rw [stopsK_len, stops0_len]; exact ha)
  rw [stops0_len] at ha
  have : (stops0 z (nStops z)).getD a default = stopOf z a := by simp [stops0, ha]
  rw [this]
  exact stopOf_close z a
theorem law_TripBegins (z0 : List Int) (h0 : Ints z0) (z1 : List Int) (h1 : Ints z1) (n more : Int) : CallsV Try.prog 4 [.sl (em ni z0), .sl (em ni z1), .int .i64 n, .int .i64 more] (.bool true) := by
  have hb := inst_sb z0
  have hb' := noPairs_sb hb
  have hci := within_in (a := n) (n := (instOf z0).cars.length) (by have := hb.sq.cars0; omega)
  have hrl := row_short (noPairs (instOf z0)) z1
  have hca := hb.car (within n (instOf z0).cars.length).toNat (by omega)
  have hcap := inst_cap z0 (c := (within n (instOf z0).cars.length).toNat) (by omega)
  have hw9 := within_in (a := more) (n := 9) (by decide)
  have hw99 := within_in (a := more) (n := 99) (by decide)
  have hw50 := within_in (a := more) (n := 50) (by decide)
  have i1 := imin_le ((carAt (instOf z0) (within n (instOf z0).cars.length)).c0 + within more 9) 60
  have i2 := imin_le ((carAt (instOf z0) (within n (instOf z0).cars.length)).c2 + within more 99) 1000
  unfold carAt at i1 i2
  have hJ1 : Sb (laxInst (instOf z0) (within n (instOf z0).cars.length) (within more 9) (within more 99) (within more 50)) (nStops z0) := lax_sb hb hci.1 hci.2 (by simp only [carAt]; omega) _
  have hJ2 : Sb (laxEnd (instOf z0) (within n (instOf z0).cars.length) (within more 9) (within more 50)) (nStops z0) := lax_sb hb hci.1 hci.2 (by simp only [carAt]; omega) _
  have hL1 : Lax (noPairs (instOf z0)) (laxInst (instOf z0) (within n (instOf z0).cars.length) (within more 9) (within more 99) (within more 50)) (within n (instOf z0).cars.length) := by
    refine lax_of hb hci.1 hci.2 ?_ ?_ ?_ hw50.1
    · simp only [carAt]; omega
    · rfl
    · simp only [carAt]; omega
  have hL2 : Lax (noPairs (instOf z0)) (laxEnd (instOf z0) (within n (instOf z0).cars.length) (within more 9) (within more 50)) (within n (instOf z0).cars.length) := by
    refine lax_of hb hci.1 hci.2 ?_ ?_ ?_ hw50.1
    · simp only [carAt]; omega
    · rfl
    · simp only [carAt]; omega
  have hss : Short (rowOf (noPairs (instOf z0)) z1) := by unfold Short; omega
  have hst : Short ((rowOf (noPairs (instOf z0)) z1).take (within more (((rowOf (noPairs (instOf z0)) z1).length : Int) + 1)).toNat) := by unfold Short; rw [List.length_take]; omega
  refine tb_walk z0 z1 n more (instOf z0) (nStops z0) hb (inst_close z0) (inst_ok z0 h0) (inst_own z0 h0) (rowOf (noPairs (instOf z0)) z1) (row_ok _ hb'.sq.short z1 h1) hrl _ rfl _ _ (eval_ok (noPairs (instOf z0)) hb'.sq.short _ _ hss) (fun h => ?_) (fun h => ?_) _ _ (eval_ok _ hJ2.sq.short _ _ hst) fun h h' => ?_
  · cases he : eval (noPairs (instOf z0)) (within n (instOf z0).cars.length) (rowOf (noPairs (instOf z0)) z1) with
    | none => rw [he] at h; cases h
    | some T =>
      have hd := drv_of hb' hci.1 hci.2 (by omega) he
      exact ⟨hd.len0, hd.len1⟩
  · cases he : eval (noPairs (instOf z0)) (within n (instOf z0).cars.length) (rowOf (noPairs (instOf z0)) z1) with
    | none => rw [he] at h; cases h
    | some T =>
      have := eval_own _ hJ1.sq.short (within n (instOf z0).cars.length) _ hss
      rw [hL1.eval hb' hJ1 hci.1 hci.2 (by omega) he] at this
      exact this
  · cases he : eval (noPairs (instOf z0)) (within n (instOf z0).cars.length) (rowOf (noPairs (instOf z0)) z1) with
    | none => rw [he] at h; cases h
    | some T =>
      cases hv : eval (laxEnd (instOf z0) (within n (instOf z0).cars.length) (within more 9) (within more 50)) (within n (instOf z0).cars.length) ((rowOf (noPairs (instOf z0)) z1).take (within more (((rowOf (noPairs (instOf z0)) z1).length : Int) + 1)).toNat) with
      | none => rw [hv] at h'; cases h'
      | some V => exact hL2.cut hb' hJ2 hci.1 hci.2 he hv

end Go.Proofs.Ytpepcfombibpeaa
