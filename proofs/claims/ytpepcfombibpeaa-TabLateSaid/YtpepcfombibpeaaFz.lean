/- The law of the latest time of a tail, walked. -/
import Derived.Test.YtpepcfombibpeaaFg
import Derived.Test.YtpepcfombibpeaaFk
import Derived.Test.YtpepcfombibpeaaFp
import Derived.Test.YtpepcfombibpeaaFw
import Derived.Test.YtpepcfombibpeaaMvC
import Derived.KernelRfl
set_option linter.unusedVariables false
set_option linter.unusedSimpArgs false
namespace Go.Proofs.Ytpepcfombibpeaa
open Go.Proofs Mv



theorem flat_tripO (o : Option Trip) : FlatI (tripO o) := .tup (.aggc (.aggc (.slo (flat_ni _)) (.aggc (.slo (flat_ni _)) (.aggc (.sca rfl) (.aggc (.sca rfl) .aggn)))) (.aggc (.sca rfl) .aggn))
theorem imp_tripO (m : Mem) (d : Nat) (o : Option Trip) : impT m d (tripO o) = (.tup [.agg [.own d (genAt m d) 0 (o.getD zeroT).t0.length none, .own (d + 1) (genAt m (d + 1)) 0 (o.getD zeroT).t1.length none, .int .i64 (o.getD zeroT).t2, .int .i64 (o.getD zeroT).t3], .bool o.isSome], [(d, ⟨genAt m d, false, .slc, 1, em ni (o.getD zeroT).t0⟩), (d + 1, ⟨genAt m (d + 1), false, .slc, 1, em ni (o.getD zeroT).t1⟩)]) := by
  simp [tripO, impT, impVs, impV, impCs, impC, em_len]
theorem imp_eio (m : Mem) (d : Nat) (i : Inst) : impT m d (eio i) = (.agg [.own d (genAt m d) 0 i.cars.length none, .own (d + 1) (genAt m (d + 1)) 0 i.stops.length none, .own (d + 1 + 1) (genAt m (d + 1 + 1)) 0 i.pairs.length none, .own (d + 1 + 1 + 1) (genAt m (d + 1 + 1 + 1)) 0 i.travel.length none],
    [(d, ⟨genAt m d, false, .slc, 3, em nc i.cars⟩), (d + 1, ⟨genAt m (d + 1), false, .slc, 4, em ns i.stops⟩), (d + 1 + 1, ⟨genAt m (d + 1 + 1), false, .slc, 2, em np i.pairs⟩), (d + 1 + 1 + 1, ⟨genAt m (d + 1 + 1 + 1), false, .slc, 1, em nr i.travel⟩)]) := by
  simp [eio, impT, impV, impCs, impC, em_len]

set_option maxRecDepth 100000 in
set_option maxHeartbeats 4000000 in
theorem tt2_walk (z0 z1 : List Int) (n later : Int) (Z : Inst) (N : Nat) (hb : Sb Z N) (hI : CallsV Try.prog 29 [.sl (em ni z0)] (ei Z)) (hO : CallsV Try.prog 29 [.sl (em ni z0)] (eio Z)) (r : List Int) (hr : CallsV Try.prog 30 [ei (noPairs Z), .sl (em ni z1)] (.sl (em ni r))) (hrl : r.length ≤ 14) (c : Int) (hc : within n Z.cars.length = c) (TL : List Tail) (hT : CallsV Try.prog 35 [ei (noPairs Z), .int .i64 c, .sl (em ni r)] (.sl (em nl TL))) (hTl : TL.length = r.length + 1) (hk : ∀ k : Nat, k < r.length → (TL.getD k default).ok = true → (1 ≤ r.getD k default ∧ r.getD k default ≤ N ∧ 0 ≤ (TL.getD k default).late ∧ (TL.getD k default).late ≤ 1000) ∧ (∃ o1 : Option Trip, CallsV Try.prog 32 [ei (lateInst Z c (r.getD k default) (TL.getD k default).late), .int .i64 c, .sl (em ni (r.drop k))] (tripO o1) ∧ (o1.isSome = false → (Z.cars.getD c.toNat default).c1 + (Z.travel.getD (Int.toNat 0) default).getD (r.getD k default).toNat default > (TL.getD k default).late)) ∧ ∃ V : Trip, CallsV Try.prog 32 [ei (lateInst Z c (r.getD k default) ((TL.getD k default).late + 1 + within later 5)), .int .i64 c, .sl (em ni (r.drop k))] (.tup [.agg (nt V), .bool false])) : CallsV Try.prog 9 [.sl (em ni z0), .sl (em ni z1), .int .i64 n, .int .i64 later] (.bool true) := by
  refine CallsR.intro (I0.sound _) mix Try.func9 rfl rfl (by simp [Try.f9]) (by kernel_rfl) (nb := 0) ?_
  unfold Try.f9
  have hci := within_in (a := n) (n := Z.cars.length) (by have := hb.sq.cars0; omega)
  rw [hc] at hci
  have hcc := hb.sq.cars1
  have hS := hb.sq.stops
  have hN := hb.sq.high
  have hTr := hb.sq.travel
  have hca := hb.car c.toNat (by omega)
  have hw5 := within_in (a := later) (n := 5) (by decide)
  refine Wp.seqI ?_
  refine Wp.regI I0.mono ?_
  refine GL.assign I0.mono (by conv => lhs; whnf) ?_
  refine GL.doneF ?_
  refine goOn ?_
  refine Wp.seqI ?_
  refine Wp.regI I0.mono ?_
  refine GL.move I0.mono (by conv => lhs; whnf) ?_
  refine GL.call0 I0.mono rfl (Frz.aggc (by exact Frz.pure rfl) (Frz.aggn)) (hI) rfl rfl (fun _ => rfl) ?_
  refine GL.alloc I0.mono (cs := [LV.nils, LV.nils, LV.nils, LV.nils]) rfl rfl ?_
  intro g9
  refine GL.storeW I0.mono (n := 4) rfl rfl rfl rfl rfl rfl rfl (by conv => lhs; whnf) rfl rfl rfl ?_
  refine GL.doneF ?_
  refine goOn ?_
  refine Wp.seqI ?_
  refine Wp.regI I0.mono ?_
  refine GL.fieldAddr I0.mono (o := 2) rfl rfl rfl rfl (by conv => lhs; whnf) ?_
  refine GL.store I0.mono (n := 1) rfl rfl rfl rfl rfl rfl rfl rfl rfl rfl (Nat.le_of_ble_eq_true rfl) (by (conv => lhs; simp only [List.take_succ_cons, List.take_zero, List.drop_succ_cons, List.drop_zero, List.nil_append, List.cons_append, List.drop_nil, List.append_nil, List.take_nil, List.set_cons_zero, List.set_cons_succ, Nat.zero_add, ni, nr, nc, ns, np, ic, nt, ei, cellsL])) (by (conv => lhs; simp only [List.take_succ_cons, List.take_zero, List.drop_succ_cons, List.drop_zero, List.nil_append, List.cons_append, List.drop_nil, List.append_nil, List.take_nil, List.set_cons_zero, List.set_cons_succ, Nat.zero_add, ni, nr, nc, ns, np, ic, nt, ei, cellsL])) ?_
  refine GL.doneF ?_
  refine goOn ?_
  refine Wp.seqI ?_
  refine Wp.regI I0.mono ?_
  refine GL.move I0.mono (by conv => lhs; whnf) ?_
  refine GL.fieldAddr I0.mono (o := 0) rfl rfl rfl rfl (by conv => lhs; whnf) ?_
  refine GL.load I0.mono rfl rfl rfl rfl (by simp) (by rfl) rfl ?_
  refine GL.lenF I0.mono rfl rfl (em_len _ _) ?_
  refine GL.call0 I0.mono rfl (Frz.aggc (by exact Frz.pure rfl) (Frz.aggc (by exact Frz.pure rfl) (Frz.aggn))) ((hc ▸ within_ok _ _ (by have := hb.sq.cars1; omega))) rfl rfl (fun _ => rfl) ?_
  refine GL.assign I0.mono (by conv => lhs; whnf) ?_
  refine GL.doneF ?_
  refine goOn ?_
  refine Wp.seqI ?_
  refine Wp.regI I0.mono ?_
  refine GL.loadW I0.mono (n := 4) rfl rfl rfl rfl (by simp) (by rfl) rfl rfl ?_
  refine GL.move I0.mono (by conv => lhs; whnf) ?_
  refine GL.call0 I0.mono rfl (Frz.aggc (by exact (Frz.aggc (by exact Frz.pure rfl) (Frz.aggc (by exact Frz.pure rfl) (Frz.aggc (by exact Frz.nils) (Frz.aggc (by exact Frz.pure rfl) Frz.aggn))))) (Frz.aggc (by exact Frz.pure rfl) (Frz.aggn))) (hr) rfl rfl (fun _ => rfl) ?_
  refine GL.assign I0.mono (by conv => lhs; whnf) ?_
  refine GL.doneF ?_
  refine goOn ?_
  refine Wp.seqI ?_
  refine Wp.regI I0.mono ?_
  refine GL.loadW I0.mono (n := 4) rfl rfl rfl rfl (by simp) (by rfl) rfl rfl ?_
  refine GL.move I0.mono (by conv => lhs; whnf) ?_
  refine GL.move I0.mono (by conv => lhs; whnf) ?_
  refine GL.call0 I0.mono rfl (Frz.aggc (by exact (Frz.aggc (by exact Frz.pure rfl) (Frz.aggc (by exact Frz.pure rfl) (Frz.aggc (by exact Frz.nils) (Frz.aggc (by exact Frz.pure rfl) Frz.aggn))))) (Frz.aggc (by exact Frz.pure rfl) (Frz.aggc (by exact Frz.pure rfl) (Frz.aggn)))) (hT) rfl rfl (fun _ => rfl) ?_
  refine GL.assign I0.mono (by conv => lhs; whnf) ?_
  refine GL.doneF ?_
  refine goOn ?_
  refine Wp.seqI ?_
  refine Wp.seqI ?_
  refine Wp.regI I0.mono ?_
  refine GL.move I0.mono (by conv => lhs; whnf) ?_
  refine GL.lenF I0.mono rfl rfl (em_len _ _) ?_
  refine GL.move I0.mono (by conv => lhs; whnf) ?_
  refine GL.lenF I0.mono rfl rfl (em_len _ _) ?_
  refine GL.addR I0.mono rfl rfl (by omega) ?_
  refine GL.bin I0.mono rfl ?_
  refine GL.doneF ?_
  refine goOn ?_
  refine Wp.condI rfl (fun h40 => ?_) (fun h40 => ?_)
  ·replace h40 := bne_true h40
   exact absurd h40 (by omega)
  ·replace h40 := bne_false h40
   refine Wp.skipI ?_
   refine goOn ?_
   refine Wp.seqI ?_
   refine Wp.seqI ?_
   refine Wp.regI I0.mono ?_
   refine GL.move I0.mono (by conv => lhs; whnf) ?_
   refine GL.lenF I0.mono rfl rfl (em_len _ _) ?_
   refine GL.move I0.mono (by conv => lhs; whnf) ?_
   refine GL.doneF ?_
   refine goOn ?_
   refine Wp.blockI ?_
   refine Wp.loopI I0.mono (α := Nat) (fun k st => (k ≤ r.length) ∧ ∃ m0, st = ⟨(updS (updS (updS (updS (updS (updS (updS (updS (fun _ => LV.undef) 0 (.sl (em ni z0))) 2 (.int .i64 c)) 3 (.int .i64 later)) 10 (.sl (em ni r))) 11 (.sl (em nl TL))) 41 (.sl (em ni r))) 42 (.int .i64 (r.length : Int))) 43 (.int .i64 (k : Int))), effM m0 []⟩) (fun k => r.length - k) 0 ⟨_, (LessS.weak (LessS.upd (LessS.upd (LessS.upd (LessS.upd (LessS.upd (LessS.upd (LessS.upd (LessS.upd (LessS.nil _) rfl) rfl) rfl) rfl) rfl) rfl) rfl) rfl) _), (Nat.zero_le _), _, (congrArg (St.mk _) (effM_eq Has.nil).symm)⟩ ?_
   rintro k _ ⟨hi, m0, rfl⟩
   refine Wp.seqI ?_
   refine Wp.regI I0.mono ?_
   refine GL.bin I0.mono rfl ?_
   refine GL.doneF ?_
   refine goOn ?_
   refine Wp.seqI ?_
   refine Wp.condI rfl (fun h44 => ?_) (fun h44 => ?_)
   ·replace h44 := of_decide_eq_true h44
    have hkk := hk k (by omega)
    refine Wp.skipI ?_
    refine goOn ?_
    refine Wp.seqI ?_
    refine Wp.blockI ?_
    refine Wp.seqI ?_
    refine Wp.regI I0.mono ?_
    refine GL.move I0.mono (by conv => lhs; whnf) ?_
    refine GL.assign I0.mono (by conv => lhs; whnf) ?_
    refine GL.doneF ?_
    refine goOn ?_
    refine Wp.seqI ?_
    refine Wp.seqI ?_
    refine Wp.regI I0.mono ?_
    refine GL.move I0.mono (by conv => lhs; whnf) ?_
    refine GL.move I0.mono (by conv => lhs; whnf) ?_
    refine GL.indexAddrF I0.mono (sz := 8) rfl rfl rfl rfl (by omega) (by (rw [em_len]; omega)) (by intro e he; obtain ⟨a, -, rfl⟩ := List.mem_map.1 he; rfl) (by with_reducible exact Int.toNat_natCast _) ?_
    refine GL.fieldAddrF I0.mono (o := 0) rfl rfl (by conv => lhs; whnf) ?_
    refine GL.loadF I0.mono rfl rfl (em_get (by omega)) rfl ?_
    refine GL.un I0.mono rfl ?_
    refine GL.doneF ?_
    refine goOn ?_
    refine Wp.condI rfl (fun h51 => ?_) (fun h51 => ?_)
    ·skip
     refine Wp.exitI ?_
     refine thenX.exit ?_
     refine blockX.out ?_
     refine goOn ?_
     refine Wp.regI I0.mono ?_
     refine GL.addR I0.mono rfl rfl (by omega) ?_
     refine GL.move I0.mono (by conv => lhs; whnf) ?_
     refine GL.doneF ?_
     refine ⟨k + 1, (by dsimp only; omega), _, (LessS.weak (LessS.upd (LessS.upd (LessS.upd (LessS.upd (LessS.upd (LessS.upd (LessS.upd (LessS.upd (LessS.nil _) rfl) rfl) rfl) rfl) rfl) rfl) rfl) rfl) _), (by omega), _, (congrArg (St.mk _) (effM_eq Has.nil).symm)⟩
    ·skip
     obtain ⟨⟨x1, x2, x3, x4⟩, ⟨o1, he1, hq1⟩, V, he2⟩ := hkk (nbt h51)
     have w0 := hb.sq.cell_in (a := 0) (b := r.getD k default) (by omega) (by omega) (by omega) (by omega)
     have hrow : (Z.travel.getD (Int.toNat 0) default).length = N + 1 := hb.sq.row 0 (by omega)
     unfold Mv.cell at w0
     refine Wp.skipI ?_
     refine goOn ?_
     refine Wp.seqI ?_
     refine Wp.regI I0.mono ?_
     refine GL.move I0.mono (by conv => lhs; whnf) ?_
     refine GL.move I0.mono (by conv => lhs; whnf) ?_
     refine GL.indexAddrF I0.mono (sz := 8) rfl rfl rfl rfl (by omega) (by (rw [em_len]; omega)) (by intro e he; obtain ⟨a, -, rfl⟩ := List.mem_map.1 he; rfl) (by with_reducible exact Int.toNat_natCast _) ?_
     refine GL.fieldAddrF I0.mono (o := 2) rfl rfl (by conv => lhs; whnf) ?_
     refine GL.loadF I0.mono rfl rfl (em_get (by omega)) rfl ?_
     refine GL.assign I0.mono (by conv => lhs; whnf) ?_
     refine GL.doneF ?_
     refine goOn ?_
     refine Wp.seqI ?_
     refine Wp.regI I0.mono ?_
     refine GL.move I0.mono (by conv => lhs; whnf) ?_
     refine GL.callM I0.mono rfl (Frz.aggc (by exact Frz.pure rfl) (Frz.aggn)) hO rfl rfl (imp_eio _ _ _) ?_
     refine GL.alloc I0.mono (cs := [LV.nils, LV.nils, LV.nils, LV.nils]) rfl rfl ?_
     intro g14
     refine GL.storeW I0.mono (n := 4) rfl rfl rfl rfl rfl rfl rfl (by conv => lhs; whnf) rfl rfl rfl ?_
     refine GL.doneF ?_
     refine goOn ?_
     refine Wp.seqI ?_
     refine Wp.regI I0.mono ?_
     refine GL.fieldAddr I0.mono (o := 2) rfl rfl rfl rfl (by conv => lhs; whnf) ?_
     refine GL.store I0.mono (n := 1) rfl rfl rfl rfl rfl rfl rfl rfl rfl rfl (Nat.le_of_ble_eq_true rfl) (by (conv => lhs; simp only [List.take_succ_cons, List.take_zero, List.drop_succ_cons, List.drop_zero, List.nil_append, List.cons_append, List.drop_nil, List.append_nil, List.take_nil, List.set_cons_zero, List.set_cons_succ, Nat.zero_add, ni, nr, nc, ns, np, ic, nt, ei, cellsL])) (by (conv => lhs; simp only [List.take_succ_cons, List.take_zero, List.drop_succ_cons, List.drop_zero, List.nil_append, List.cons_append, List.drop_nil, List.append_nil, List.take_nil, List.set_cons_zero, List.set_cons_succ, Nat.zero_add, ni, nr, nc, ns, np, ic, nt, ei, cellsL])) ?_
     refine GL.doneF ?_
     refine goOn ?_
     refine Wp.seqI ?_
     refine Wp.regI I0.mono ?_
     refine GL.fieldAddr I0.mono (o := 0) rfl rfl rfl rfl (by conv => lhs; whnf) ?_
     refine GL.load I0.mono rfl rfl rfl rfl (by simp) (by rfl) rfl ?_
     refine GL.move I0.mono (by conv => lhs; whnf) ?_
     refine GL.indexAddr I0.mono (sz := 3) rfl rfl rfl rfl rfl rfl rfl rfl (by omega) (by omega) (by (conv => lhs; simp only [Nat.zero_add, Int.toNat_natCast])) ?_
     refine GL.fieldAddr I0.mono (o := 0) rfl rfl rfl rfl (by conv => lhs; whnf) ?_
     refine GL.storeS I0.mono (n := 1) (es' := em nc (Z.cars.set c.toNat (Car.mk 60 (Z.cars.getD c.toNat default).c1 (Z.cars.getD c.toNat default).c2))) rfl rfl rfl rfl rfl rfl (em_get (by omega)) rfl rfl rfl rfl (Nat.le_of_ble_eq_true rfl) rfl (em_set nc _ _ (Car.mk 60 (Z.cars.getD c.toNat default).c1 (Z.cars.getD c.toNat default).c2)) ?_
     refine GL.doneF ?_
     refine goOn ?_
     refine Wp.seqI ?_
     refine Wp.seqI ?_
     refine Wp.regI I0.mono ?_
     refine GL.fieldAddr I0.mono (o := 1) rfl rfl rfl rfl (by conv => lhs; whnf) ?_
     refine GL.load I0.mono rfl rfl rfl rfl (by simp) (by rfl) rfl ?_
     refine GL.lenO I0.mono rfl rfl rfl rfl ?_
     refine GL.move I0.mono (by conv => lhs; whnf) ?_
     refine GL.doneF ?_
     refine goOn ?_
     refine Wp.blockI ?_
     refine Wp.loopI I0.mono (α := Nat × Nat × Nat × Nat) (fun ⟨q, gc, gs, gt⟩ st => (q ≤ Z.stops.length) ∧ ∃ m0, st = ⟨(updS (updS (updS (updS (updS (updS (updS (updS (updS (updS (updS (updS (updS (updS (fun _ => LV.undef) 0 (.sl (em ni z0))) 2 (.int .i64 c)) 3 (.int .i64 later)) 10 (.sl (em ni r))) 11 (.sl (em nl TL))) 41 (.sl (em ni r))) 42 (.int .i64 (r.length : Int))) 43 (.int .i64 (k : Int))) 12 (.int .i64 (k : Int))) 13 (.int .i64 (TL.getD k default).late)) 14 (.ref 896 g14 0 0)) 66 (.own 3713 gs 0 Z.stops.length none)) 67 (.int .i64 (Z.stops.length : Int))) 68 (.int .i64 (q : Int))), effM m0 [(896, ⟨g14, false, .var, 4, [[.own 3712 gc 0 Z.cars.length none, .own 3713 gs 0 Z.stops.length none, .nils, .own 3715 gt 0 Z.travel.length none]]⟩), (3712, ⟨gc, false, .slc, 3, em nc (Z.cars.set c.toNat (Car.mk 60 (Z.cars.getD c.toNat default).c1 (Z.cars.getD c.toNat default).c2))⟩), (3713, ⟨gs, false, .slc, 4, em ns (zeroD Z.stops q)⟩), (3715, ⟨gt, false, .slc, 1, em nr Z.travel⟩)]⟩) (fun ⟨q, gc, gs, gt⟩ => Z.stops.length - q) ⟨0, _, _, _⟩ ⟨_, (LessS.weak (LessS.upd (LessS.upd (LessS.upd (LessS.upd (LessS.upd (LessS.upd (LessS.upd (LessS.upd (LessS.upd (LessS.upd (LessS.upd (LessS.upd (LessS.upd (LessS.upd (LessS.nil _) rfl) rfl) rfl) rfl) rfl) rfl) rfl) rfl) rfl) rfl) rfl) rfl) rfl) rfl) _), (Nat.zero_le _), _, (congrArg (St.mk _) (effM_eq (Has.cons rfl (Has.cons rfl (Has.cons rfl (Has.cons rfl Has.nil))))).symm)⟩ ?_
     rintro ⟨q, gc, gs, gt⟩ _ ⟨hq, m0, rfl⟩
     refine Wp.seqI ?_
     refine Wp.regI I0.mono ?_
     refine GL.bin I0.mono rfl ?_
     refine GL.doneF ?_
     refine goOn ?_
     refine Wp.seqI ?_
     refine Wp.condI rfl (fun h69 => ?_) (fun h69 => ?_)
     ·replace h69 := of_decide_eq_true h69
      refine Wp.skipI ?_
      refine goOn ?_
      refine Wp.seqI ?_
      refine Wp.blockI ?_
      refine Wp.seqI ?_
      refine Wp.regI I0.mono ?_
      refine GL.move I0.mono (by conv => lhs; whnf) ?_
      refine GL.assign I0.mono (by conv => lhs; whnf) ?_
      refine GL.doneF ?_
      refine goOn ?_
      refine Wp.regI I0.mono ?_
      refine GL.fieldAddr I0.mono (o := 1) rfl rfl rfl rfl (by conv => lhs; whnf) ?_
      refine GL.load I0.mono rfl rfl rfl rfl (by simp) (by rfl) rfl ?_
      refine GL.move I0.mono (by conv => lhs; whnf) ?_
      refine GL.indexAddr I0.mono (sz := 4) rfl rfl rfl rfl rfl rfl rfl rfl (by omega) (by omega) (by (conv => lhs; simp only [Nat.zero_add, Int.toNat_natCast])) ?_
      refine GL.fieldAddr I0.mono (o := 0) rfl rfl rfl rfl (by conv => lhs; whnf) ?_
      refine GL.storeS I0.mono (n := 1) (es' := em ns (zeroD Z.stops (q + 1))) rfl rfl rfl rfl rfl rfl (em_get (by (rw [zeroD_len]; omega))) rfl rfl rfl rfl (Nat.le_of_ble_eq_true rfl) rfl (em_set ns _ _ (Stop.mk _ _ _ _)) ?_
      refine GL.doneF ?_
      refine blockX.normal ?_
      refine goOn ?_
      refine Wp.regI I0.mono ?_
      refine GL.addR I0.mono rfl rfl (by omega) ?_
      refine GL.move I0.mono (by conv => lhs; whnf) ?_
      refine GL.doneF ?_
      refine ⟨⟨q + 1, _, _, _⟩, (by dsimp only; omega), _, (LessS.weak (LessS.upd (LessS.upd (LessS.upd (LessS.upd (LessS.upd (LessS.upd (LessS.upd (LessS.upd (LessS.upd (LessS.upd (LessS.upd (LessS.upd (LessS.upd (LessS.upd (LessS.nil _) rfl) rfl) rfl) rfl) rfl) rfl) rfl) rfl) rfl) rfl) rfl) rfl) rfl) rfl) _), (by omega), _, (congrArg (St.mk _) (effM_eq (Has.cons rfl (Has.cons rfl (Has.cons rfl (Has.cons rfl Has.nil))))).symm)⟩
     ·replace h69 := of_decide_eq_false h69
      obtain rfl : q = Z.stops.length := by omega
      refine Wp.exitI ?_
      refine thenX.exit ?_
      refine thenX.exit ?_
      refine blockX.out ?_
      refine goOn ?_
      refine Wp.seqI ?_
      refine Wp.regD ?_
      refine GL.fieldAddr I0.mono (o := 1) rfl rfl rfl rfl (by conv => lhs; whnf) ?_
      refine GL.load I0.mono rfl rfl rfl rfl (by simp) (by rfl) rfl ?_
      refine GL.move I0.mono (by conv => lhs; whnf) ?_
      refine GL.move I0.mono (by conv => lhs; whnf) ?_
      refine GL.indexAddrF I0.mono (sz := 1) rfl rfl rfl rfl (by omega) (by (rw [em_len]; omega)) (by intro e he; obtain ⟨a, -, rfl⟩ := List.mem_map.1 he; rfl) (by with_reducible exact Int.toNat_natCast _) ?_
      refine GL.loadF I0.mono rfl rfl (em_get (by omega)) rfl ?_
      refine GL.subR I0.mono rfl rfl (by omega) ?_
      refine GL.move I0.mono (by conv => lhs; whnf) ?_
      refine GL.indexAddr I0.mono (sz := 4) rfl rfl rfl rfl rfl rfl rfl rfl (by omega) (by omega) (by (conv => lhs; simp only [Nat.zero_add, Int.toNat_natCast])) ?_
      refine GL.fieldAddr I0.mono (o := 1) rfl rfl rfl rfl (by conv => lhs; whnf) ?_
      refine GL.storeS I0.mono (n := 1) (es' := em ns (lateStops Z.stops ((r.getD k default) - 1).toNat (TL.getD k default).late)) rfl rfl rfl rfl rfl rfl (em_get (by (rw [zeroD_len]; omega))) rfl rfl rfl rfl (Nat.le_of_ble_eq_true rfl) rfl (by rw [show (zeroD Z.stops Z.stops.length).getD ((r.getD k default) - 1).toNat default = ⟨0, (Z.stops.getD ((r.getD k default) - 1).toNat default).s1, (Z.stops.getD ((r.getD k default) - 1).toNat default).s2, (Z.stops.getD ((r.getD k default) - 1).toNat default).s3⟩ by rw [zeroD_get _ _ _ (by omega), if_pos (by omega)]]; exact em_set ns (zeroD Z.stops Z.stops.length) ((r.getD k default) - 1).toNat (Stop.mk 0 (TL.getD k default).late (Z.stops.getD ((r.getD k default) - 1).toNat default).s2 (Z.stops.getD ((r.getD k default) - 1).toNat default).s3)) ?_
      refine GL.doneT (by kernel_rfl) ?_
      refine goOn ?_
      refine Wp.seqI ?_
      refine Wp.seqI ?_
      refine Wp.regD ?_
      refine GL.loadW I0.mono (n := 4) rfl rfl rfl rfl (by simp) (by rfl) rfl rfl ?_
      refine GL.move I0.mono (by conv => lhs; whnf) ?_
      refine GL.move I0.mono (by conv => lhs; whnf) ?_
      refine GL.move I0.mono (by conv => lhs; whnf) ?_
      refine GL.sliceFrom I0.mono (sz := 1) rfl rfl rfl rfl (by intro e he; obtain ⟨a, -, rfl⟩ := List.mem_map.1 he; rfl) (by omega) (by omega) (by with_reducible exact Int.toNat_natCast _) ?_
      refine GL.callFlT rfl (Frz.aggc (Frz.aggc (by exact Frz.whole rfl rfl rfl rfl (by (rw [em_len]; show (List.set _ _ _).length = _; rw [List.length_set]))) (Frz.aggc (by exact Frz.whole rfl rfl rfl rfl (by (rw [em_len]; show (lateStops _ _ _).length = _; rw [lateStops_len]))) (Frz.aggc (by exact Frz.nils) (Frz.aggc (by exact Frz.whole rfl rfl rfl rfl (by exact em_len _ _)) Frz.aggn)))) (Frz.aggc (Frz.pure rfl) (Frz.aggc (Frz.pure rfl) Frz.aggn))) he1 (flat_tripO _) rfl (imp_tripO _ _ _) ?_
      refine GL.move I0.mono (by conv => lhs; whnf) ?_
      refine GL.extract I0.mono rfl rfl ?_
      refine GL.extract I0.mono rfl rfl ?_
      refine GL.alloc I0.mono (cs := [LV.nils, LV.nils, LV.int .i64 0, LV.int .i64 0]) rfl rfl ?_
      intro g16
      refine GL.storeW I0.mono (n := 4) rfl rfl rfl rfl rfl rfl rfl (by conv => lhs; whnf) rfl rfl rfl ?_
      refine GL.assign I0.mono (by conv => lhs; whnf) ?_
      refine GL.doneT (by kernel_rfl) ?_
      refine goOn ?_
      refine Wp.seqI ?_
      refine Wp.regD ?_
      refine GL.move I0.mono (by conv => lhs; whnf) ?_
      refine GL.un I0.mono rfl ?_
      refine GL.move I0.mono (by conv => lhs; whnf) ?_
      refine GL.splitAt 98 rfl (fun h98 => ?_) (fun h98 => ?_)
      ·rw [h98]
       have hgt := hq1 (nbf h98)
       refine GL.guardT rfl ?_
       refine GL.fieldAddr I0.mono (o := 0) rfl rfl rfl rfl (by conv => lhs; whnf) ?_
       refine GL.guardT rfl ?_
       refine GL.load I0.mono rfl rfl rfl rfl (by simp) (by rfl) rfl ?_
       refine GL.guardT rfl ?_
       refine GL.move I0.mono (by conv => lhs; whnf) ?_
       refine GL.guardT rfl ?_
       refine GL.indexAddr I0.mono (sz := 3) rfl rfl rfl rfl rfl rfl rfl rfl (by omega) (by omega) (by (conv => lhs; simp only [Nat.zero_add, Int.toNat_natCast])) ?_
       refine GL.guardT rfl ?_
       refine GL.fieldAddr I0.mono (o := 1) rfl rfl rfl rfl (by conv => lhs; whnf) ?_
       refine GL.guardT rfl ?_
       refine GL.load I0.mono rfl rfl rfl rfl (by simp) (em_get (by rw [List.length_set]; omega)) (v := .int .i64 (Z.cars.getD c.toNat default).c1) (by rw [getD_set_same _ _ _ (show c.toNat < Z.cars.length by omega)]; rfl) ?_
       refine GL.guardT rfl ?_
       refine GL.fieldAddr I0.mono (o := 3) rfl rfl rfl rfl (by conv => lhs; whnf) ?_
       refine GL.guardT rfl ?_
       refine GL.load I0.mono rfl rfl rfl rfl (by simp) (by rfl) rfl ?_
       refine GL.guardT rfl ?_
       refine GL.indexAddr I0.mono (sz := 1) rfl rfl rfl rfl rfl rfl rfl rfl (by omega) (by omega) (by (conv => lhs; simp only [Nat.zero_add, Int.toNat_natCast])) ?_
       refine GL.guardT rfl ?_
       refine GL.load I0.mono rfl rfl rfl rfl (by simp) (by exact em_get (by omega)) rfl ?_
       refine GL.guardT rfl ?_
       refine GL.move I0.mono (by conv => lhs; whnf) ?_
       refine GL.guardT rfl ?_
       refine GL.move I0.mono (by conv => lhs; whnf) ?_
       refine GL.guardT rfl ?_
       refine GL.indexAddrF I0.mono (sz := 1) rfl rfl rfl rfl (by omega) (by (rw [em_len]; omega)) (by intro e he; obtain ⟨a, -, rfl⟩ := List.mem_map.1 he; rfl) (by with_reducible exact Int.toNat_natCast _) ?_
       refine GL.guardT rfl ?_
       refine GL.loadF I0.mono rfl rfl (em_get (by omega)) rfl ?_
       refine GL.guardT rfl ?_
       refine GL.indexAddrF I0.mono (sz := 1) rfl rfl rfl rfl (by omega) (by (rw [em_len]; omega)) (by intro e he; obtain ⟨a, -, rfl⟩ := List.mem_map.1 he; rfl) (by rfl) ?_
       refine GL.guardT rfl ?_
       refine GL.loadF I0.mono rfl rfl (em_get (by omega)) rfl ?_
       refine GL.guardT rfl ?_
       refine GL.addR I0.mono rfl rfl (by omega) ?_
       refine GL.guardT rfl ?_
       refine GL.move I0.mono (by conv => lhs; whnf) ?_
       refine GL.guardT rfl ?_
       refine GL.bin I0.mono rfl ?_
       refine GL.pick I0.mono rfl (by conv => lhs; whnf) ?_
       refine GL.doneT (by kernel_rfl) ?_
       refine goOn ?_
       refine Wp.condI rfl (fun h118 => ?_) (fun h118 => ?_)
       ·replace h118 := of_decide_eq_true h118
        exact absurd h118 (by omega)
       ·replace h118 := of_decide_eq_false h118
        refine Wp.skipI ?_
        refine goOn ?_
        refine Wp.seqI ?_
        refine Wp.regD ?_
        refine GL.fieldAddr I0.mono (o := 1) rfl rfl rfl rfl (by conv => lhs; whnf) ?_
        refine GL.load I0.mono rfl rfl rfl rfl (by simp) (by rfl) rfl ?_
        refine GL.move I0.mono (by conv => lhs; whnf) ?_
        refine GL.move I0.mono (by conv => lhs; whnf) ?_
        refine GL.indexAddrF I0.mono (sz := 1) rfl rfl rfl rfl (by omega) (by (rw [em_len]; omega)) (by intro e he; obtain ⟨a, -, rfl⟩ := List.mem_map.1 he; rfl) (by with_reducible exact Int.toNat_natCast _) ?_
        refine GL.loadF I0.mono rfl rfl (em_get (by omega)) rfl ?_
        refine GL.subR I0.mono rfl rfl (by omega) ?_
        refine GL.move I0.mono (by conv => lhs; whnf) ?_
        refine GL.addR I0.mono rfl rfl (by omega) ?_
        refine GL.move I0.mono (by conv => lhs; whnf) ?_
        refine GL.call0 I0.mono rfl (Frz.aggc (by exact Frz.pure rfl) (Frz.aggc (by exact Frz.pure rfl) (Frz.aggn))) (within_ok _ _ (by decide)) rfl rfl (fun _ => rfl) ?_
        refine GL.addR I0.mono rfl rfl (by omega) ?_
        refine GL.indexAddr I0.mono (sz := 4) rfl rfl rfl rfl rfl rfl rfl rfl (by omega) (by omega) (by (conv => lhs; simp only [Nat.zero_add, Int.toNat_natCast])) ?_
        refine GL.fieldAddr I0.mono (o := 1) rfl rfl rfl rfl (by conv => lhs; whnf) ?_
        refine GL.storeS I0.mono (n := 1) (es' := em ns (lateStops Z.stops ((r.getD k default) - 1).toNat ((TL.getD k default).late + 1 + within later 5))) rfl rfl rfl rfl rfl rfl (em_get (by (rw [lateStops_len]; omega))) rfl rfl rfl rfl (Nat.le_of_ble_eq_true rfl) rfl (by rw [show (lateStops Z.stops ((r.getD k default) - 1).toNat (TL.getD k default).late).getD ((r.getD k default) - 1).toNat default = ⟨0, (TL.getD k default).late, (Z.stops.getD ((r.getD k default) - 1).toNat default).s2, (Z.stops.getD ((r.getD k default) - 1).toNat default).s3⟩ from getD_set_same _ _ _ (by rw [zeroD_len]; omega)]; exact (em_set ns (lateStops Z.stops ((r.getD k default) - 1).toNat (TL.getD k default).late) ((r.getD k default) - 1).toNat (Stop.mk 0 ((TL.getD k default).late + 1 + within later 5) (Z.stops.getD ((r.getD k default) - 1).toNat default).s2 (Z.stops.getD ((r.getD k default) - 1).toNat default).s3)).trans (congrArg (em ns) (by unfold lateStops; rw [List.set_set]))) ?_
        refine GL.doneT (by kernel_rfl) ?_
        refine goOn ?_
        refine Wp.seqI ?_
        refine Wp.regD ?_
        refine GL.loadW I0.mono (n := 4) rfl rfl rfl rfl (by simp) (by rfl) rfl rfl ?_
        refine GL.move I0.mono (by conv => lhs; whnf) ?_
        refine GL.move I0.mono (by conv => lhs; whnf) ?_
        refine GL.move I0.mono (by conv => lhs; whnf) ?_
        refine GL.sliceFrom I0.mono (sz := 1) rfl rfl rfl rfl (by intro e he; obtain ⟨a, -, rfl⟩ := List.mem_map.1 he; rfl) (by omega) (by omega) (by with_reducible exact Int.toNat_natCast _) ?_
        refine GL.callMW I0.mono (W := [3712, 3713, 3715]) rfl (Frz.aggc (Frz.aggc (by exact Frz.whole rfl rfl rfl rfl (by (rw [em_len]; show (List.set _ _ _).length = _; rw [List.length_set]))) (Frz.aggc (by exact Frz.whole rfl rfl rfl rfl (by (rw [em_len]; show (lateStops _ _ _).length = _; rw [lateStops_len]))) (Frz.aggc (by exact Frz.nils) (Frz.aggc (by exact Frz.whole rfl rfl rfl rfl (by exact em_len _ _)) Frz.aggn)))) (Frz.aggc (Frz.pure rfl) (Frz.aggc (Frz.pure rfl) Frz.aggn))) he2 rfl rfl rfl (fun _ => rfl) ?_
        refine GL.move I0.mono (by conv => lhs; whnf) ?_
        refine GL.extract I0.mono rfl rfl ?_
        refine GL.extract I0.mono rfl rfl ?_
        refine GL.alloc I0.mono (cs := [LV.nils, LV.nils, LV.int .i64 0, LV.int .i64 0]) rfl rfl ?_
        intro g18
        refine GL.storeW I0.mono (n := 4) rfl rfl rfl rfl rfl rfl rfl (by conv => lhs; whnf) rfl rfl rfl ?_
        refine GL.assign I0.mono (by conv => lhs; whnf) ?_
        refine GL.doneT (by kernel_rfl) ?_
        refine goOn ?_
        refine Wp.seqI ?_
        refine Wp.regD ?_
        refine GL.move I0.mono (by conv => lhs; whnf) ?_
        refine GL.move I0.mono (by conv => lhs; whnf) ?_
        refine GL.guardF rfl ?_
        refine GL.guardF rfl ?_
        refine GL.guardF rfl ?_
        refine GL.guardF rfl ?_
        refine GL.guardF rfl ?_
        refine GL.guardF rfl ?_
        refine GL.guardF rfl ?_
        refine GL.guardF rfl ?_
        refine GL.guardF rfl ?_
        refine GL.guardF rfl ?_
        refine GL.guardF rfl ?_
        refine GL.guardF rfl ?_
        refine GL.guardF rfl ?_
        refine GL.guardF rfl ?_
        refine GL.guardF rfl ?_
        refine GL.guardF rfl ?_
        refine GL.guardF rfl ?_
        refine GL.guardF rfl ?_
        refine GL.guardF rfl ?_
        refine GL.guardF rfl ?_
        refine GL.guardF rfl ?_
        refine GL.pick I0.mono rfl (by conv => lhs; whnf) ?_
        refine GL.doneT (by kernel_rfl) ?_
        refine goOn ?_
        refine Wp.condF rfl ?_
        refine Wp.skipI ?_
        refine blockX.normal ?_
        refine goOn ?_
        refine Wp.regI I0.mono ?_
        refine GL.addR I0.mono rfl rfl (by omega) ?_
        refine GL.move I0.mono (by conv => lhs; whnf) ?_
        refine GL.doneF ?_
        refine ⟨k + 1, (by dsimp only; omega), _, (LessS.weak (LessS.upd (LessS.upd (LessS.upd (LessS.upd (LessS.upd (LessS.upd (LessS.upd (LessS.upd (LessS.nil _) rfl) rfl) rfl) rfl) rfl) rfl) rfl) rfl) _), (by omega), _, (congrArg (St.mk _) (effM_eq Has.nil).symm)⟩
      ·rw [h98]
       skip
       refine GL.guardF rfl ?_
       refine GL.guardF rfl ?_
       refine GL.guardF rfl ?_
       refine GL.guardF rfl ?_
       refine GL.guardF rfl ?_
       refine GL.guardF rfl ?_
       refine GL.guardF rfl ?_
       refine GL.guardF rfl ?_
       refine GL.guardF rfl ?_
       refine GL.guardF rfl ?_
       refine GL.guardF rfl ?_
       refine GL.guardF rfl ?_
       refine GL.guardF rfl ?_
       refine GL.guardF rfl ?_
       refine GL.guardF rfl ?_
       refine GL.guardF rfl ?_
       refine GL.guardF rfl ?_
       refine GL.guardF rfl ?_
       refine GL.guardF rfl ?_
       refine GL.pick I0.mono rfl (by conv => lhs; whnf) ?_
       refine GL.doneT (by kernel_rfl) ?_
       refine goOn ?_
       refine Wp.condF rfl ?_
       refine Wp.skipI ?_
       refine goOn ?_
       refine Wp.seqI ?_
       refine Wp.regD ?_
       refine GL.fieldAddr I0.mono (o := 1) rfl rfl rfl rfl (by conv => lhs; whnf) ?_
       refine GL.load I0.mono rfl rfl rfl rfl (by simp) (by rfl) rfl ?_
       refine GL.move I0.mono (by conv => lhs; whnf) ?_
       refine GL.move I0.mono (by conv => lhs; whnf) ?_
       refine GL.indexAddrF I0.mono (sz := 1) rfl rfl rfl rfl (by omega) (by (rw [em_len]; omega)) (by intro e he; obtain ⟨a, -, rfl⟩ := List.mem_map.1 he; rfl) (by with_reducible exact Int.toNat_natCast _) ?_
       refine GL.loadF I0.mono rfl rfl (em_get (by omega)) rfl ?_
       refine GL.subR I0.mono rfl rfl (by omega) ?_
       refine GL.move I0.mono (by conv => lhs; whnf) ?_
       refine GL.addR I0.mono rfl rfl (by omega) ?_
       refine GL.move I0.mono (by conv => lhs; whnf) ?_
       refine GL.call0 I0.mono rfl (Frz.aggc (by exact Frz.pure rfl) (Frz.aggc (by exact Frz.pure rfl) (Frz.aggn))) (within_ok _ _ (by decide)) rfl rfl (fun _ => rfl) ?_
       refine GL.addR I0.mono rfl rfl (by omega) ?_
       refine GL.indexAddr I0.mono (sz := 4) rfl rfl rfl rfl rfl rfl rfl rfl (by omega) (by omega) (by (conv => lhs; simp only [Nat.zero_add, Int.toNat_natCast])) ?_
       refine GL.fieldAddr I0.mono (o := 1) rfl rfl rfl rfl (by conv => lhs; whnf) ?_
       refine GL.storeS I0.mono (n := 1) (es' := em ns (lateStops Z.stops ((r.getD k default) - 1).toNat ((TL.getD k default).late + 1 + within later 5))) rfl rfl rfl rfl rfl rfl (em_get (by (rw [lateStops_len]; omega))) rfl rfl rfl rfl (Nat.le_of_ble_eq_true rfl) rfl (by rw [show (lateStops Z.stops ((r.getD k default) - 1).toNat (TL.getD k default).late).getD ((r.getD k default) - 1).toNat default = ⟨0, (TL.getD k default).late, (Z.stops.getD ((r.getD k default) - 1).toNat default).s2, (Z.stops.getD ((r.getD k default) - 1).toNat default).s3⟩ from getD_set_same _ _ _ (by rw [zeroD_len]; omega)]; exact (em_set ns (lateStops Z.stops ((r.getD k default) - 1).toNat (TL.getD k default).late) ((r.getD k default) - 1).toNat (Stop.mk 0 ((TL.getD k default).late + 1 + within later 5) (Z.stops.getD ((r.getD k default) - 1).toNat default).s2 (Z.stops.getD ((r.getD k default) - 1).toNat default).s3)).trans (congrArg (em ns) (by unfold lateStops; rw [List.set_set]))) ?_
       refine GL.doneT (by kernel_rfl) ?_
       refine goOn ?_
       refine Wp.seqI ?_
       refine Wp.regD ?_
       refine GL.loadW I0.mono (n := 4) rfl rfl rfl rfl (by simp) (by rfl) rfl rfl ?_
       refine GL.move I0.mono (by conv => lhs; whnf) ?_
       refine GL.move I0.mono (by conv => lhs; whnf) ?_
       refine GL.move I0.mono (by conv => lhs; whnf) ?_
       refine GL.sliceFrom I0.mono (sz := 1) rfl rfl rfl rfl (by intro e he; obtain ⟨a, -, rfl⟩ := List.mem_map.1 he; rfl) (by omega) (by omega) (by with_reducible exact Int.toNat_natCast _) ?_
       refine GL.callMW I0.mono (W := [3712, 3713, 3715]) rfl (Frz.aggc (Frz.aggc (by exact Frz.whole rfl rfl rfl rfl (by (rw [em_len]; show (List.set _ _ _).length = _; rw [List.length_set]))) (Frz.aggc (by exact Frz.whole rfl rfl rfl rfl (by (rw [em_len]; show (lateStops _ _ _).length = _; rw [lateStops_len]))) (Frz.aggc (by exact Frz.nils) (Frz.aggc (by exact Frz.whole rfl rfl rfl rfl (by exact em_len _ _)) Frz.aggn)))) (Frz.aggc (Frz.pure rfl) (Frz.aggc (Frz.pure rfl) Frz.aggn))) he2 rfl rfl rfl (fun _ => rfl) ?_
       refine GL.move I0.mono (by conv => lhs; whnf) ?_
       refine GL.extract I0.mono rfl rfl ?_
       refine GL.extract I0.mono rfl rfl ?_
       refine GL.alloc I0.mono (cs := [LV.nils, LV.nils, LV.int .i64 0, LV.int .i64 0]) rfl rfl ?_
       intro g18
       refine GL.storeW I0.mono (n := 4) rfl rfl rfl rfl rfl rfl rfl (by conv => lhs; whnf) rfl rfl rfl ?_
       refine GL.assign I0.mono (by conv => lhs; whnf) ?_
       refine GL.doneT (by kernel_rfl) ?_
       refine goOn ?_
       refine Wp.seqI ?_
       refine Wp.regD ?_
       refine GL.move I0.mono (by conv => lhs; whnf) ?_
       refine GL.move I0.mono (by conv => lhs; whnf) ?_
       refine GL.guardF rfl ?_
       refine GL.guardF rfl ?_
       refine GL.guardF rfl ?_
       refine GL.guardF rfl ?_
       refine GL.guardF rfl ?_
       refine GL.guardF rfl ?_
       refine GL.guardF rfl ?_
       refine GL.guardF rfl ?_
       refine GL.guardF rfl ?_
       refine GL.guardF rfl ?_
       refine GL.guardF rfl ?_
       refine GL.guardF rfl ?_
       refine GL.guardF rfl ?_
       refine GL.guardF rfl ?_
       refine GL.guardF rfl ?_
       refine GL.guardF rfl ?_
       refine GL.guardF rfl ?_
       refine GL.guardF rfl ?_
       refine GL.guardF rfl ?_
       refine GL.guardF rfl ?_
       refine GL.guardF rfl ?_
       refine GL.pick I0.mono rfl (by conv => lhs; whnf) ?_
       refine GL.doneT (by kernel_rfl) ?_
       refine goOn ?_
       refine Wp.condF rfl ?_
       refine Wp.skipI ?_
       refine blockX.normal ?_
       refine goOn ?_
       refine Wp.regI I0.mono ?_
       refine GL.addR I0.mono rfl rfl (by omega) ?_
       refine GL.move I0.mono (by conv => lhs; whnf) ?_
       refine GL.doneF ?_
       refine ⟨k + 1, (by dsimp only; omega), _, (LessS.weak (LessS.upd (LessS.upd (LessS.upd (LessS.upd (LessS.upd (LessS.upd (LessS.upd (LessS.upd (LessS.nil _) rfl) rfl) rfl) rfl) rfl) rfl) rfl) rfl) _), (by omega), _, (congrArg (St.mk _) (effM_eq Has.nil).symm)⟩
   ·replace h44 := of_decide_eq_false h44
    refine Wp.exitI ?_
    refine thenX.exit ?_
    refine thenX.exit ?_
    refine blockX.out ?_
    refine goOn ?_
    refine Wp.seqI ?_
    refine Wp.regI I0.mono ?_
    refine GL.call0 I0.mono rfl (Frz.aggn) (wakes5_ok) rfl rfl (fun _ => rfl) ?_
    refine GL.assign I0.mono (by conv => lhs; whnf) ?_
    refine GL.doneF ?_
    refine goOn ?_
    refine Wp.retI ?_
    refine RetX.ret ?_
    refine ⟨_, _, _, _, .cons (.tmp rfl) .nil, .frz (.pure rfl), List.nodup_nil, by simp, ?_⟩
    rfl


theorem law_TabLate (z0 : List Int) (h0 : Ints z0) (z1 : List Int) (h1 : Ints z1) (n later : Int) : CallsV Try.prog 9 [.sl (em ni z0), .sl (em ni z1), .int .i64 n, .int .i64 later] (.bool true) := by
  have hb := inst_sb z0
  have hb' := noPairs_sb hb
  have hp' := nopairs (i := noPairs (instOf z0)) rfl
  have hci := within_in (a := n) (n := (instOf z0).cars.length) (by have := hb.sq.cars0; omega)
  have hr := row_short (noPairs (instOf z0)) z1
  have hw5 := within_in (a := later) (n := 5) (by decide)
  have hT : isT (noPairs (instOf z0)) (within n (instOf z0).cars.length) 0 = true := isT_mk ⟨hci.1, hci.2, by omega, by omega⟩
  have e2 := tails_ok (noPairs (instOf z0)) (tb_inst hb' hp'.2) (within n (instOf z0).cars.length) (rowOf (noPairs (instOf z0)) z1) (by unfold Short; omega)
  rw [tails, if_pos hT] at e2
  refine tt2_walk z0 z1 n later (instOf z0) (nStops z0) hb (inst_ok z0 h0) (inst_own z0 h0) _ (row_ok _ hb'.sq.short z1 h1) hr _ rfl _ e2 (tailsK_len _ _ _ _) fun k hk hok => ?_
  rw [tailsK_get _ _ _ (by omega), if_neg (Nat.not_lt_zero _)] at hok ⊢
  have hlen : ((rowOf (noPairs (instOf z0)) z1).drop k).length ≤ 1000 := by rw [List.length_drop]; omega
  have hti := tailOf_ti hb' hp'.1 hp'.2 _ _ hlen hok
  have hst : (instOf z0).stops.length = nStops z0 := hb.sq.stops
  generalize hL : (rowOf (noPairs (instOf z0)) z1).drop k = L at *
  have hL2 : L = (rowOf (noPairs (instOf z0)) z1).getD k default :: (rowOf (noPairs (instOf z0)) z1).drop (k + 1) := by rw [← hL]; exact drop_getD hk
  generalize hx : (rowOf (noPairs (instOf z0)) z1).getD k default = x at *
  have hlen2 : ((rowOf (noPairs (instOf z0)) z1).drop (k + 1)).length ≤ 900 := by rw [List.length_drop]; omega
  generalize (rowOf (noPairs (instOf z0)) z1).drop (k + 1) = R at *
  subst hL2
  have hxT : isT (noPairs (instOf z0)) (within n (instOf z0).cars.length) x = true ∧ 1 ≤ x := by
    have h' : (before (noPairs (instOf z0)) (within n (instOf z0).cars.length) x (tailOf (noPairs (instOf z0)) (within n (instOf z0).cars.length) R)).ok = true := hok
    exact ⟨(before_inv h').1.2.1, (before_inv h').1.2.2.1⟩
  have hx2 := isT_get hxT.1
  have hx3 : x ≤ (instOf z0).stops.length := hx2.2.2.2
  have hxS : isStop (instOf z0) x = true := by unfold isStop; simp; omega
  have v0 := hti.e0
  have v1 := hti.e1
  have l1 := late_eval hb' rfl hci.1 hci.2 hlen2 hok (o := (tailOf (noPairs (instOf z0)) (within n (instOf z0).cars.length) (x :: R)).late) v0 (by omega)
  have l2 := late_eval hb' rfl hci.1 hci.2 hlen2 hok (o := (tailOf (noPairs (instOf z0)) (within n (instOf z0).cars.length) (x :: R)).late + 1 + within later 5) (by omega) (by omega)
  refine ⟨⟨hxT.2, by omega, v0, v1⟩, ⟨_, reval_own (lateInst (instOf z0) (within n (instOf z0).cars.length) x (tailOf (noPairs (instOf z0)) (within n (instOf z0).cars.length) (x :: R)).late) (nStops z0) (late_sb hb hci.1 hci.2 hxS v0 (by omega)) (nopairs rfl).1 _ _ hlen, fun hf => ?_⟩, ⟨zeroT, ?_⟩⟩
  · refine Int.not_le.1 fun hle => ?_
    have := l1.1 (Int.le_refl _) hle
    rw [show eval (lateInst (noPairs (instOf z0)) (within n (instOf z0).cars.length) x (tailOf (noPairs (instOf z0)) (within n (instOf z0).cars.length) (x :: R)).late) (within n (instOf z0).cars.length) (x :: R) = eval (lateInst (instOf z0) (within n (instOf z0).cars.length) x (tailOf (noPairs (instOf z0)) (within n (instOf z0).cars.length) (x :: R)).late) (within n (instOf z0).cars.length) (x :: R) from rfl, hf] at this
    cases this
  · have e3 := reval_ok (lateInst (instOf z0) (within n (instOf z0).cars.length) x ((tailOf (noPairs (instOf z0)) (within n (instOf z0).cars.length) (x :: R)).late + 1 + within later 5)) (nStops z0) (late_sb hb hci.1 hci.2 hxS (by omega) (by omega)) (nopairs rfl).1 (within n (instOf z0).cars.length) (x :: R) hlen
    rw [show eval (lateInst (instOf z0) (within n (instOf z0).cars.length) x ((tailOf (noPairs (instOf z0)) (within n (instOf z0).cars.length) (x :: R)).late + 1 + within later 5)) (within n (instOf z0).cars.length) (x :: R) = none from l2.2 (by omega)] at e3
    exact e3

end Go.Proofs.Ytpepcfombibpeaa
