/- The law of what is told of a route, walked. -/
import Derived.Test.YtpepcfombibpeaaFl
import Derived.Test.YtpepcfombibpeaaGl
import Derived.KernelRfl
set_option linter.unusedVariables false
set_option linter.unusedSimpArgs false
namespace Go.Proofs.Ytpepcfombibpeaa
open Go.Proofs Mv



theorem imp_certS (m : Mem) (d : Nat) (c : Int) (r A L : List Int) (x : Int) : impT m d (certO (some ⟨c, r, A, L, x⟩)) = (.tup [.agg [.int .i64 c, .own d (genAt m d) 0 r.length none, .own (d + 1) (genAt m (d + 1)) 0 A.length none, .own (d + 1 + 1) (genAt m (d + 1 + 1)) 0 L.length none, .int .i64 x], .bool true],
    [(d, ⟨genAt m d, false, .slc, 1, em ni r⟩), (d + 1, ⟨genAt m (d + 1), false, .slc, 1, em ni A⟩), (d + 1 + 1, ⟨genAt m (d + 1 + 1), false, .slc, 1, em ni L⟩)]) := imp_certO m d (some ⟨c, r, A, L, x⟩)
theorem set_ne {l : List Int} {j : Nat} {v : Int} (hj : j < l.length) (h : v ≠ l.getD j default) : l.set j v ≠ l := fun e => h (by
  have := congrArg (fun l => l.getD j default) e
  simp [hj] at this
  simpa [hj] using this)
theorem snoc_ne {l : List Int} {v : Int} : l ++ [v] ≠ l := fun e => by
  have := congrArg List.length e
  simp at this
theorem tail_ne {l : List Int} (h : 0 < l.length) : l.drop 1 ≠ l := fun e => by
  have := congrArg List.length e
  simp at this
  omega

set_option maxRecDepth 100000 in
set_option maxHeartbeats 4000000 in
theorem ct_none (z0 z1 : List Int) (car0 how k0 x0 : Int) (I : Inst) (N : Nat) (hb : Sb I N) (hI : CallsV Try.prog 29 [.sl (em ni z0)] (ei I)) (r : List Int) (hr : CallsV Try.prog 30 [ei I, .sl (em ni z1)] (.sl (em ni r))) (hrl : r.length ≤ 14) (c : Int) (hc : within car0 ((I.cars.length : Int) + 1) = c) (hm : CallsV Try.prog 58 [ei I, .int .i64 c, .sl (em ni r)] (certO none)) (he : CallsV Try.prog 32 [ei I, .int .i64 c, .sl (em ni r)] (.tup [.agg (nt zeroT), .bool false])) (hR : ∀ (A L : List Int) (x : Int), A.length < 9223372036854775808 → L.length < 9223372036854775808 → CallsV Try.prog 59 [ei I, ec ⟨c, r, A, L, x⟩] (.bool false)) : CallsV Try.prog 22 [.sl (em ni z0), .sl (em ni z1), .int .i64 car0, .int .i64 how, .int .i64 k0, .int .i64 x0] (.bool true) := by
  refine CallsR.intro (I0.sound _) mix Try.func22 rfl rfl (by simp [Try.f22]) (by kernel_rfl) (nb := 0) ?_
  unfold Try.f22
  have hcc := hb.sq.cars1
  have hcn : I.cars.length ≤ 3 := hcc
  refine Wp.seqI ?_
  refine Wp.regI I0.mono ?_
  refine GL.assign I0.mono (by conv => lhs; whnf) ?_
  refine GL.doneF ?_
  refine goOn ?_
  refine Wp.seqI ?_
  refine Wp.regI I0.mono ?_
  refine GL.move I0.mono (by conv => lhs; whnf) ?_
  refine GL.call0 I0.mono rfl (Frz.aggc (by exact Frz.pure rfl) (Frz.aggn)) (hI) rfl rfl (fun _ => rfl) ?_
  refine GL.alloc I0.mono (cs := [LV.nils, LV.nils, LV.nils, LV.nils]) rfl rfl ?_
  intro g13
  refine GL.storeW I0.mono (n := 4) rfl rfl rfl rfl rfl rfl rfl (by conv => lhs; whnf) rfl rfl rfl ?_
  refine GL.doneF ?_
  refine goOn ?_
  refine Wp.seqI ?_
  refine Wp.regI I0.mono ?_
  refine GL.move I0.mono (by conv => lhs; whnf) ?_
  refine GL.fieldAddr I0.mono (o := 0) rfl rfl rfl rfl (by conv => lhs; whnf) ?_
  refine GL.load I0.mono rfl rfl rfl rfl (by simp) rfl rfl ?_
  refine GL.lenF I0.mono rfl rfl (em_len _ _) ?_
  refine GL.addR I0.mono rfl rfl (by omega) ?_
  refine GL.call0 I0.mono rfl (Frz.aggc (by exact Frz.pure rfl) (Frz.aggc (by exact Frz.pure rfl) (Frz.aggn))) ((hc ▸ within_ok _ _ (by omega))) rfl rfl (fun _ => rfl) ?_
  refine GL.assign I0.mono (by conv => lhs; whnf) ?_
  refine GL.doneF ?_
  refine goOn ?_
  refine Wp.seqI ?_
  refine Wp.regI I0.mono ?_
  refine GL.loadW I0.mono (n := 4) rfl rfl rfl rfl (by simp) rfl rfl rfl ?_
  refine GL.move I0.mono (by conv => lhs; whnf) ?_
  refine GL.call0 I0.mono rfl (Frz.aggc (by exact Frz.pures rfl) (Frz.aggc (by exact Frz.pure rfl) (Frz.aggn))) (hr) rfl rfl (fun _ => rfl) ?_
  refine GL.assign I0.mono (by conv => lhs; whnf) ?_
  refine GL.doneF ?_
  refine goOn ?_
  refine Wp.seqI ?_
  refine Wp.regI I0.mono ?_
  refine GL.loadW I0.mono (n := 4) rfl rfl rfl rfl (by simp) rfl rfl rfl ?_
  refine GL.move I0.mono (by conv => lhs; whnf) ?_
  refine GL.move I0.mono (by conv => lhs; whnf) ?_
  refine GL.callFl I0.mono rfl (Frz.aggc (Frz.aggc (by exact Frz.pure rfl) (Frz.aggc (by exact Frz.pure rfl) (Frz.aggc (by exact Frz.pure rfl) (Frz.aggc (by exact Frz.pure rfl) Frz.aggn)))) (Frz.aggc (Frz.pure rfl) (Frz.aggc (Frz.pure rfl) Frz.aggn))) hm (flat_certO _) rfl (imp_certO _ _ _) ?_
  refine GL.move I0.mono (by conv => lhs; whnf) ?_
  refine GL.extract I0.mono rfl rfl ?_
  refine GL.extract I0.mono rfl rfl ?_
  refine GL.alloc I0.mono (cs := [LV.int .i64 0, LV.nils, LV.nils, LV.nils, LV.int .i64 0]) rfl rfl ?_
  intro g15
  refine GL.storeW I0.mono (n := 5) rfl rfl rfl rfl rfl rfl rfl (by conv => lhs; whnf) rfl rfl rfl ?_
  refine GL.assign I0.mono (by conv => lhs; whnf) ?_
  refine GL.doneF ?_
  refine goOn ?_
  refine Wp.seqI ?_
  refine Wp.regI I0.mono ?_
  refine GL.loadW I0.mono (n := 4) rfl rfl rfl rfl (by simp) rfl rfl rfl ?_
  refine GL.move I0.mono (by conv => lhs; whnf) ?_
  refine GL.move I0.mono (by conv => lhs; whnf) ?_
  refine GL.call0 I0.mono rfl (Frz.aggc (by exact Frz.pures rfl) (Frz.aggc (by exact Frz.pure rfl) (Frz.aggc (by exact Frz.pure rfl) (Frz.aggn)))) (he) rfl rfl (fun _ => rfl) ?_
  refine GL.move I0.mono (by conv => lhs; whnf) ?_
  refine GL.extract I0.mono rfl rfl ?_
  refine GL.extract I0.mono rfl rfl ?_
  refine GL.alloc I0.mono (cs := [LV.nils, LV.nils, LV.int .i64 0, LV.int .i64 0]) rfl rfl ?_
  intro g17
  refine GL.storeW I0.mono (n := 4) rfl rfl rfl rfl rfl rfl rfl (by conv => lhs; whnf) rfl rfl rfl ?_
  refine GL.assign I0.mono (by conv => lhs; whnf) ?_
  refine GL.doneF ?_
  refine goOn ?_
  refine Wp.seqI ?_
  refine Wp.seqI ?_
  refine Wp.regI I0.mono ?_
  refine GL.move I0.mono (by conv => lhs; whnf) ?_
  refine GL.move I0.mono (by conv => lhs; whnf) ?_
  refine GL.bin I0.mono (v := .bool false) (by kernel_rfl) ?_
  refine GL.doneF ?_
  refine goOn ?_
  refine Wp.condF rfl ?_
  refine Wp.skipI ?_
  refine goOn ?_
  refine Wp.seqI ?_
  refine Wp.seqI ?_
  refine Wp.regI I0.mono ?_
  refine GL.move I0.mono (by conv => lhs; whnf) ?_
  refine GL.un I0.mono rfl ?_
  refine GL.doneF ?_
  refine goOn ?_
  refine Wp.condT rfl ?_
  refine Wp.seqI ?_
  refine Wp.regD ?_
  refine GL.fieldAddr I0.mono (o := 0) rfl rfl rfl rfl (by conv => lhs; whnf) ?_
  refine GL.load I0.mono rfl rfl rfl rfl (by simp) rfl rfl ?_
  refine GL.bin I0.mono (v := .bool true) (by kernel_rfl) ?_
  refine GL.move I0.mono (by conv => lhs; whnf) ?_
  refine GL.guardT rfl ?_
  refine GL.fieldAddr I0.mono (o := 1) rfl rfl rfl rfl (by conv => lhs; whnf) ?_
  refine GL.guardT rfl ?_
  refine GL.load I0.mono rfl rfl rfl rfl (by simp) rfl rfl ?_
  refine GL.guardT rfl ?_
  refine GL.lenO I0.mono rfl rfl rfl rfl ?_
  refine GL.guardT rfl ?_
  refine GL.bin I0.mono (v := .bool true) (by kernel_rfl) ?_
  refine GL.pick I0.mono rfl (by conv => lhs; whnf) ?_
  refine GL.move I0.mono (by conv => lhs; whnf) ?_
  refine GL.guardT rfl ?_
  refine GL.fieldAddr I0.mono (o := 2) rfl rfl rfl rfl (by conv => lhs; whnf) ?_
  refine GL.guardT rfl ?_
  refine GL.load I0.mono rfl rfl rfl rfl (by simp) rfl rfl ?_
  refine GL.guardT rfl ?_
  refine GL.lenO I0.mono rfl rfl rfl rfl ?_
  refine GL.guardT rfl ?_
  refine GL.bin I0.mono (v := .bool true) (by kernel_rfl) ?_
  refine GL.pick I0.mono rfl (by conv => lhs; whnf) ?_
  refine GL.move I0.mono (by conv => lhs; whnf) ?_
  refine GL.guardT rfl ?_
  refine GL.fieldAddr I0.mono (o := 4) rfl rfl rfl rfl (by conv => lhs; whnf) ?_
  refine GL.guardT rfl ?_
  refine GL.load I0.mono rfl rfl rfl rfl (by simp) rfl rfl ?_
  refine GL.guardT rfl ?_
  refine GL.bin I0.mono (v := .bool true) (by kernel_rfl) ?_
  refine GL.pick I0.mono rfl (by conv => lhs; whnf) ?_
  refine GL.move I0.mono (by conv => lhs; whnf) ?_
  refine GL.guardT rfl ?_
  refine GL.loadW I0.mono (n := 4) rfl rfl rfl rfl (by simp) rfl rfl rfl ?_
  refine GL.guardT rfl ?_
  refine GL.move I0.mono (by conv => lhs; whnf) ?_
  refine GL.guardT rfl ?_
  refine GL.move I0.mono (by conv => lhs; whnf) ?_
  refine GL.guardT rfl ?_
  refine GL.move I0.mono (by conv => lhs; whnf) ?_
  refine GL.guardT rfl ?_
  refine GL.lenF I0.mono rfl rfl (em_len _ _) ?_
  refine GL.guardT rfl ?_
  refine GL.makeSlice I0.mono (j := r.length) (sz := 1) (z := [.int .i64 0]) rfl rfl rfl rfl (by decide) rfl rfl (by omega) (by omega) (Nat.le_of_ble_eq_true rfl) (by omega) ?_
  intro g75
  rw [show List.replicate r.length (List.map pureC [LV.int .i64 0]) = em ni (List.replicate r.length 0) from by rw [em_replicate]; rfl]
  refine GL.guardT rfl ?_
  refine GL.move I0.mono (by conv => lhs; whnf) ?_
  refine GL.guardT rfl ?_
  refine GL.lenF I0.mono rfl rfl (em_len _ _) ?_
  refine GL.guardT rfl ?_
  refine GL.makeSlice I0.mono (j := r.length) (sz := 1) (z := [.int .i64 0]) rfl rfl rfl rfl (by decide) rfl rfl (by omega) (by omega) (Nat.le_of_ble_eq_true rfl) (by omega) ?_
  intro g78
  rw [show List.replicate r.length (List.map pureC [LV.int .i64 0]) = em ni (List.replicate r.length 0) from by rw [em_replicate]; rfl]
  refine GL.guardT rfl ?_
  refine GL.loadW I0.mono (n := 4) rfl rfl rfl rfl (by simp) rfl rfl rfl ?_
  refine GL.guardT rfl ?_
  refine GL.move I0.mono (by conv => lhs; whnf) ?_
  refine GL.guardT rfl ?_
  refine GL.call0 I0.mono rfl (Frz.aggc (by exact Frz.pures rfl) (Frz.aggc (by exact Frz.pure rfl) (Frz.aggn))) (rcost_ok I N hb.sq r (by omega)) rfl rfl (fun _ => rfl) ?_
  refine GL.guardT rfl ?_
  refine GL.buildS I0.mono (z := [LV.int .i64 0, LV.nils, LV.nils, LV.nils, LV.int .i64 0]) (cs := [_, _, _, _, _]) (n := 5) rfl rfl rfl (EvS.cons (by conv => lhs; whnf) (EvS.cons (by conv => lhs; whnf) (EvS.cons (by conv => lhs; whnf) (EvS.cons (by conv => lhs; whnf) (EvS.cons (by conv => lhs; whnf) (EvS.nil)))))) rfl rfl ?_
  refine GL.guardT rfl ?_
  refine GL.callMW I0.mono (W := [4800, 4992]) rfl (Frz.aggc (Frz.aggc (by exact Frz.pure rfl) (Frz.aggc (by exact Frz.pure rfl) (Frz.aggc (by exact Frz.pure rfl) (Frz.aggc (by exact Frz.pure rfl) Frz.aggn)))) (Frz.aggc (Frz.aggc (by exact Frz.pure rfl) (Frz.aggc (by exact Frz.pure rfl) (Frz.aggc (by exact Frz.whole rfl rfl rfl rfl (by (rw [em_len, List.length_replicate]))) (Frz.aggc (by exact Frz.whole rfl rfl rfl rfl (by (rw [em_len, List.length_replicate]))) (Frz.aggc (by exact Frz.pure rfl) Frz.aggn))))) Frz.aggn)) (hR _ _ _ (by rw [List.length_replicate]; omega) (by rw [List.length_replicate]; omega)) rfl rfl rfl (fun _ => rfl) ?_
  refine GL.guardT rfl ?_
  refine GL.un I0.mono rfl ?_
  refine GL.pick I0.mono rfl (by conv => lhs; whnf) ?_
  refine GL.move I0.mono (by conv => lhs; whnf) ?_
  refine GL.guardT rfl ?_
  refine GL.call0 I0.mono rfl (Frz.aggn) (wakes11_ok) rfl rfl (fun _ => rfl) ?_
  refine GL.pick I0.mono rfl (by conv => lhs; whnf) ?_
  refine GL.assign I0.mono (by conv => lhs; whnf) ?_
  refine GL.doneT (by kernel_rfl) ?_
  refine goOn ?_
  refine Wp.retI ?_
  refine thenX.ret ?_
  refine RetX.ret ?_
  refine ⟨_, _, _, _, .cons (.tmp rfl) .nil, .frz (.pure rfl), List.nodup_nil, by simp, ?_⟩
  rfl

set_option maxRecDepth 100000 in
set_option maxHeartbeats 4000000 in
theorem ct_some (z0 z1 : List Int) (car0 how k0 x0 : Int) (I : Inst) (N : Nat) (hb : Sb I N) (hI : CallsV Try.prog 29 [.sl (em ni z0)] (ei I)) (r : List Int) (hr : CallsV Try.prog 30 [ei I, .sl (em ni z1)] (.sl (em ni r))) (hrl : r.length ≤ 14) (c : Int) (hc : within car0 ((I.cars.length : Int) + 1) = c) (T : Trip) (hm : CallsV Try.prog 58 [ei I, .int .i64 c, .sl (em ni r)] (certO (some ⟨c, r, T.t0, T.t1, T.t2⟩))) (he : CallsV Try.prog 32 [ei I, .int .i64 c, .sl (em ni r)] (.tup [.agg (nt T), .bool true])) (hl0 : T.t0.length = r.length) (hl1 : T.t1.length = r.length) (hD : ∀ j, j < r.length → 0 ≤ T.t0.getD j default ∧ T.t0.getD j default ≤ 100000 ∧ 0 ≤ T.t1.getD j default ∧ T.t1.getD j default ≤ 100000) (ht0 : 0 ≤ T.t2) (ht1 : T.t2 ≤ 200000) (hRt : CallsV Try.prog 59 [ei I, ec ⟨c, r, T.t0, T.t1, T.t2⟩] (.bool true)) (hRf : ∀ (A L : List Int) (x : Int), A.length < 9223372036854775808 → L.length < 9223372036854775808 → (A ≠ T.t0 ∨ L ≠ T.t1 ∨ x ≠ T.t2) → CallsV Try.prog 59 [ei I, ec ⟨c, r, A, L, x⟩] (.bool false)) (hR2 : ∀ k : Int, (I.cars.length : Int) ≤ k → CallsV Try.prog 59 [ei I, ec ⟨k, r, T.t0, T.t1, T.t2⟩] (.bool false)) : CallsV Try.prog 22 [.sl (em ni z0), .sl (em ni z1), .int .i64 car0, .int .i64 how, .int .i64 k0, .int .i64 x0] (.bool true) := by
  refine CallsR.intro (I0.sound _) mix Try.func22 rfl rfl (by simp [Try.f22]) (by kernel_rfl) (nb := 0) ?_
  unfold Try.f22
  have hcc := hb.sq.cars1
  have hcn : I.cars.length ≤ 3 := hcc
  have hw := within_in (a := how) (n := 6) (by decide)
  have hx := within_in (a := x0) (n := 9) (by decide)
  have hN := hb.sq.high
  have hS := hb.sq.stops
  refine Wp.seqI ?_
  refine Wp.regI I0.mono ?_
  refine GL.assign I0.mono (by conv => lhs; whnf) ?_
  refine GL.doneF ?_
  refine goOn ?_
  refine Wp.seqI ?_
  refine Wp.regI I0.mono ?_
  refine GL.move I0.mono (by conv => lhs; whnf) ?_
  refine GL.call0 I0.mono rfl (Frz.aggc (by exact Frz.pure rfl) (Frz.aggn)) (hI) rfl rfl (fun _ => rfl) ?_
  refine GL.alloc I0.mono (cs := [LV.nils, LV.nils, LV.nils, LV.nils]) rfl rfl ?_
  intro g13
  refine GL.storeW I0.mono (n := 4) rfl rfl rfl rfl rfl rfl rfl (by conv => lhs; whnf) rfl rfl rfl ?_
  refine GL.doneF ?_
  refine goOn ?_
  refine Wp.seqI ?_
  refine Wp.regI I0.mono ?_
  refine GL.move I0.mono (by conv => lhs; whnf) ?_
  refine GL.fieldAddr I0.mono (o := 0) rfl rfl rfl rfl (by conv => lhs; whnf) ?_
  refine GL.load I0.mono rfl rfl rfl rfl (by simp) (by rfl) rfl ?_
  refine GL.lenF I0.mono rfl rfl (em_len _ _) ?_
  refine GL.addR I0.mono rfl rfl (by omega) ?_
  refine GL.call0 I0.mono rfl (Frz.aggc (by exact Frz.pure rfl) (Frz.aggc (by exact Frz.pure rfl) (Frz.aggn))) ((hc ▸ within_ok _ _ (by omega))) rfl rfl (fun _ => rfl) ?_
  refine GL.assign I0.mono (by conv => lhs; whnf) ?_
  refine GL.doneF ?_
  refine goOn ?_
  refine Wp.seqI ?_
  refine Wp.regI I0.mono ?_
  refine GL.loadW I0.mono (n := 4) rfl rfl rfl rfl (by simp) (by rfl) rfl rfl ?_
  refine GL.move I0.mono (by conv => lhs; whnf) ?_
  refine GL.call0 I0.mono rfl (Frz.aggc (by exact Frz.pures rfl) (Frz.aggc (by exact Frz.pure rfl) (Frz.aggn))) (hr) rfl rfl (fun _ => rfl) ?_
  refine GL.assign I0.mono (by conv => lhs; whnf) ?_
  refine GL.doneF ?_
  refine goOn ?_
  refine Wp.seqI ?_
  refine Wp.regI I0.mono ?_
  refine GL.loadW I0.mono (n := 4) rfl rfl rfl rfl (by simp) (by rfl) rfl rfl ?_
  refine GL.move I0.mono (by conv => lhs; whnf) ?_
  refine GL.move I0.mono (by conv => lhs; whnf) ?_
  refine GL.callFl I0.mono rfl (Frz.aggc (Frz.aggc (by exact Frz.pure rfl) (Frz.aggc (by exact Frz.pure rfl) (Frz.aggc (by exact Frz.pure rfl) (Frz.aggc (by exact Frz.pure rfl) Frz.aggn)))) (Frz.aggc (Frz.pure rfl) (Frz.aggc (Frz.pure rfl) Frz.aggn))) hm (flat_certO _) rfl (imp_certS _ _ _ _ _ _ _) ?_
  refine GL.move I0.mono (by conv => lhs; whnf) ?_
  refine GL.extract I0.mono rfl rfl ?_
  refine GL.extract I0.mono rfl rfl ?_
  refine GL.alloc I0.mono (cs := [LV.int .i64 0, LV.nils, LV.nils, LV.nils, LV.int .i64 0]) rfl rfl ?_
  intro g15
  refine GL.storeW I0.mono (n := 5) rfl rfl rfl rfl rfl rfl rfl (by conv => lhs; whnf) rfl rfl rfl ?_
  refine GL.assign I0.mono (by conv => lhs; whnf) ?_
  refine GL.doneF ?_
  refine goOn ?_
  refine Wp.seqI ?_
  refine Wp.regI I0.mono ?_
  refine GL.loadW I0.mono (n := 4) rfl rfl rfl rfl (by simp) (by rfl) rfl rfl ?_
  refine GL.move I0.mono (by conv => lhs; whnf) ?_
  refine GL.move I0.mono (by conv => lhs; whnf) ?_
  refine GL.call0 I0.mono rfl (Frz.aggc (by exact Frz.pures rfl) (Frz.aggc (by exact Frz.pure rfl) (Frz.aggc (by exact Frz.pure rfl) (Frz.aggn)))) (he) rfl rfl (fun _ => rfl) ?_
  refine GL.move I0.mono (by conv => lhs; whnf) ?_
  refine GL.extract I0.mono rfl rfl ?_
  refine GL.extract I0.mono rfl rfl ?_
  refine GL.alloc I0.mono (cs := [LV.nils, LV.nils, LV.int .i64 0, LV.int .i64 0]) rfl rfl ?_
  intro g17
  refine GL.storeW I0.mono (n := 4) rfl rfl rfl rfl rfl rfl rfl (by conv => lhs; whnf) rfl rfl rfl ?_
  refine GL.assign I0.mono (by conv => lhs; whnf) ?_
  refine GL.doneF ?_
  refine goOn ?_
  refine Wp.seqI ?_
  refine Wp.seqI ?_
  refine Wp.regI I0.mono ?_
  refine GL.move I0.mono (by conv => lhs; whnf) ?_
  refine GL.move I0.mono (by conv => lhs; whnf) ?_
  refine GL.bin I0.mono (v := .bool false) (by kernel_rfl) ?_
  refine GL.doneF ?_
  refine goOn ?_
  refine Wp.condF rfl ?_
  refine Wp.skipI ?_
  refine goOn ?_
  refine Wp.seqI ?_
  refine Wp.seqI ?_
  refine Wp.regI I0.mono ?_
  refine GL.move I0.mono (by conv => lhs; whnf) ?_
  refine GL.un I0.mono rfl ?_
  refine GL.doneF ?_
  refine goOn ?_
  refine Wp.condF rfl ?_
  refine Wp.skipI ?_
  refine goOn ?_
  refine Wp.seqI ?_
  refine Wp.seqI ?_
  refine Wp.regI I0.mono ?_
  refine GL.fieldAddr I0.mono (o := 0) rfl rfl rfl rfl (by conv => lhs; whnf) ?_
  refine GL.load I0.mono rfl rfl rfl rfl (by simp) (by rfl) rfl ?_
  refine GL.move I0.mono (by conv => lhs; whnf) ?_
  refine GL.bin I0.mono (v := .bool false) (by show some (LV.bool (_ != _)) = _; rw [bne_self_eq_false]) ?_
  refine GL.move I0.mono (by conv => lhs; whnf) ?_
  refine GL.guardT rfl ?_
  refine GL.fieldAddr I0.mono (o := 1) rfl rfl rfl rfl (by conv => lhs; whnf) ?_
  refine GL.guardT rfl ?_
  refine GL.load I0.mono rfl rfl rfl rfl (by simp) (by rfl) rfl ?_
  refine GL.guardT rfl ?_
  refine GL.move I0.mono (by conv => lhs; whnf) ?_
  refine GL.guardT rfl ?_
  refine GL.callFl I0.mono rfl (Frz.aggc (by exact Frz.whole rfl rfl rfl rfl (by exact em_len _ _)) (Frz.aggc (Frz.pure rfl) Frz.aggn)) ((by have := same_ok r r (by unfold Short; omega) (by unfold Short; omega); rwa [decide_eq_true rfl] at this)) (FlatI.sca rfl) rfl rfl ?_
  refine GL.guardT rfl ?_
  refine GL.un I0.mono rfl ?_
  refine GL.pick I0.mono rfl (by conv => lhs; whnf) ?_
  refine GL.move I0.mono (by conv => lhs; whnf) ?_
  refine GL.guardT rfl ?_
  refine GL.fieldAddr I0.mono (o := 2) rfl rfl rfl rfl (by conv => lhs; whnf) ?_
  refine GL.guardT rfl ?_
  refine GL.load I0.mono rfl rfl rfl rfl (by simp) (by rfl) rfl ?_
  refine GL.guardT rfl ?_
  refine GL.fieldAddr I0.mono (o := 0) rfl rfl rfl rfl (by conv => lhs; whnf) ?_
  refine GL.guardT rfl ?_
  refine GL.load I0.mono rfl rfl rfl rfl (by simp) (by rfl) rfl ?_
  refine GL.guardT rfl ?_
  refine GL.callFl I0.mono rfl (Frz.aggc (by exact Frz.whole rfl rfl rfl rfl (by exact em_len _ _)) (Frz.aggc (Frz.pure rfl) Frz.aggn)) ((by have := same_ok T.t0 T.t0 (by unfold Short; omega) (by unfold Short; omega); rwa [decide_eq_true rfl] at this)) (FlatI.sca rfl) rfl rfl ?_
  refine GL.guardT rfl ?_
  refine GL.un I0.mono rfl ?_
  refine GL.pick I0.mono rfl (by conv => lhs; whnf) ?_
  refine GL.move I0.mono (by conv => lhs; whnf) ?_
  refine GL.guardT rfl ?_
  refine GL.fieldAddr I0.mono (o := 3) rfl rfl rfl rfl (by conv => lhs; whnf) ?_
  refine GL.guardT rfl ?_
  refine GL.load I0.mono rfl rfl rfl rfl (by simp) (by rfl) rfl ?_
  refine GL.guardT rfl ?_
  refine GL.fieldAddr I0.mono (o := 1) rfl rfl rfl rfl (by conv => lhs; whnf) ?_
  refine GL.guardT rfl ?_
  refine GL.load I0.mono rfl rfl rfl rfl (by simp) (by rfl) rfl ?_
  refine GL.guardT rfl ?_
  refine GL.callFl I0.mono rfl (Frz.aggc (by exact Frz.whole rfl rfl rfl rfl (by exact em_len _ _)) (Frz.aggc (Frz.pure rfl) Frz.aggn)) ((by have := same_ok T.t1 T.t1 (by unfold Short; omega) (by unfold Short; omega); rwa [decide_eq_true rfl] at this)) (FlatI.sca rfl) rfl rfl ?_
  refine GL.guardT rfl ?_
  refine GL.un I0.mono rfl ?_
  refine GL.pick I0.mono rfl (by conv => lhs; whnf) ?_
  refine GL.move I0.mono (by conv => lhs; whnf) ?_
  refine GL.guardT rfl ?_
  refine GL.fieldAddr I0.mono (o := 4) rfl rfl rfl rfl (by conv => lhs; whnf) ?_
  refine GL.guardT rfl ?_
  refine GL.load I0.mono rfl rfl rfl rfl (by simp) (by rfl) rfl ?_
  refine GL.guardT rfl ?_
  refine GL.fieldAddr I0.mono (o := 2) rfl rfl rfl rfl (by conv => lhs; whnf) ?_
  refine GL.guardT rfl ?_
  refine GL.load I0.mono rfl rfl rfl rfl (by simp) (by rfl) rfl ?_
  refine GL.guardT rfl ?_
  refine GL.bin I0.mono (v := .bool false) (by show some (LV.bool (_ != _)) = _; rw [bne_self_eq_false]) ?_
  refine GL.pick I0.mono rfl (by conv => lhs; whnf) ?_
  refine GL.move I0.mono (by conv => lhs; whnf) ?_
  refine GL.guardT rfl ?_
  refine GL.loadW I0.mono (n := 4) rfl rfl rfl rfl (by simp) (by rfl) rfl rfl ?_
  refine GL.guardT rfl ?_
  refine GL.loadW I0.mono (n := 5) rfl rfl rfl rfl (by simp) (by rfl) rfl rfl ?_
  refine GL.guardT rfl ?_
  refine GL.callFl I0.mono rfl (Frz.aggc (Frz.aggc (by exact Frz.pure rfl) (Frz.aggc (by exact Frz.pure rfl) (Frz.aggc (by exact Frz.pure rfl) (Frz.aggc (by exact Frz.pure rfl) Frz.aggn)))) (Frz.aggc (Frz.aggc (by exact Frz.pure rfl) (Frz.aggc (by exact Frz.whole rfl rfl rfl rfl (by exact em_len _ _)) (Frz.aggc (by exact Frz.whole rfl rfl rfl rfl (by exact em_len _ _)) (Frz.aggc (by exact Frz.whole rfl rfl rfl rfl (by exact em_len _ _)) (Frz.aggc (by exact Frz.pure rfl) Frz.aggn))))) Frz.aggn)) (hRt) (FlatI.sca rfl) rfl rfl ?_
  refine GL.guardT rfl ?_
  refine GL.un I0.mono rfl ?_
  refine GL.pick I0.mono rfl (by conv => lhs; whnf) ?_
  refine GL.doneF ?_
  refine goOn ?_
  refine Wp.condF rfl ?_
  refine Wp.skipI ?_
  refine goOn ?_
  refine Wp.seqI ?_
  refine Wp.regI I0.mono ?_
  refine GL.move I0.mono (by conv => lhs; whnf) ?_
  refine GL.call0 I0.mono rfl (Frz.aggc (by exact Frz.pure rfl) (Frz.aggc (by exact Frz.pure rfl) (Frz.aggn))) (within_ok _ _ (by decide)) rfl rfl (fun _ => rfl) ?_
  refine GL.addR I0.mono rfl rfl (by omega) ?_
  refine GL.assign I0.mono (by conv => lhs; whnf) ?_
  refine GL.doneF ?_
  refine goOn ?_
  refine Wp.seqI ?_
  refine Wp.seqI ?_
  refine Wp.regI I0.mono ?_
  refine GL.move I0.mono (by conv => lhs; whnf) ?_
  refine GL.call0 I0.mono rfl (Frz.aggc (by exact Frz.pure rfl) (Frz.aggc (by exact Frz.pure rfl) (Frz.aggn))) (within_ok _ _ (by decide)) rfl rfl (fun _ => rfl) ?_
  refine GL.doneF ?_
  refine goOn ?_
  refine Wp.blockI ?_
  refine Wp.seqI ?_
  refine Wp.regI I0.mono ?_
  refine GL.bin I0.mono rfl ?_
  refine GL.assign I0.mono (by conv => lhs; whnf) ?_
  refine GL.doneF ?_
  refine goOn ?_
  refine Wp.condI rfl (fun h142 => ?_) (fun h142 => ?_)
  ·replace h142 := of_decide_eq_true h142
   refine Wp.regI I0.mono ?_
   refine GL.fieldAddr I0.mono (o := 4) rfl rfl rfl rfl (by conv => lhs; whnf) ?_
   refine GL.load I0.mono rfl rfl rfl rfl (by simp) (by rfl) rfl ?_
   refine GL.move I0.mono (by conv => lhs; whnf) ?_
   refine GL.addR I0.mono rfl rfl (by omega) ?_
   refine GL.fieldAddr I0.mono (o := 4) rfl rfl rfl rfl (by conv => lhs; whnf) ?_
   refine GL.store I0.mono (n := 1) rfl rfl rfl rfl rfl rfl rfl rfl rfl rfl (Nat.le_of_ble_eq_true rfl) (by (conv => lhs; simp only [List.take_succ_cons, List.take_zero, List.drop_succ_cons, List.drop_zero, List.nil_append, List.cons_append, List.drop_nil, List.append_nil, List.take_nil, List.set_cons_zero, List.set_cons_succ, Nat.zero_add, ni, nr, nc, ns, np, ic, nt, ei, cellsL, kc, ec])) (by (conv => lhs; simp only [List.take_succ_cons, List.take_zero, List.drop_succ_cons, List.drop_zero, List.nil_append, List.cons_append, List.drop_nil, List.append_nil, List.take_nil, List.set_cons_zero, List.set_cons_succ, Nat.zero_add, ni, nr, nc, ns, np, ic, nt, ei, cellsL, kc, ec])) ?_
   refine GL.doneF ?_
   refine blockX.normal ?_
   have hF := hRf T.t0 T.t1 (T.t2 + (1 + within x0 9)) (by omega) (by omega) (.inr (.inr (by omega)))
   refine goOn ?_
   refine Wp.seqI ?_
   refine Wp.regI I0.mono ?_
   refine GL.loadW I0.mono (n := 4) rfl rfl rfl rfl (by simp) (by rfl) rfl rfl ?_
   refine GL.loadW I0.mono (n := 5) rfl rfl rfl rfl (by simp) (by rfl) rfl rfl ?_
   refine GL.callFl I0.mono rfl (Frz.aggc (Frz.aggc (by exact Frz.pure rfl) (Frz.aggc (by exact Frz.pure rfl) (Frz.aggc (by exact Frz.pure rfl) (Frz.aggc (by exact Frz.pure rfl) Frz.aggn)))) (Frz.aggc (Frz.aggc (by exact Frz.pure rfl) (Frz.aggc (by exact Frz.whole rfl rfl rfl rfl (by exact em_len _ _)) (Frz.aggc (by exact Frz.whole rfl rfl rfl rfl (by exact em_len _ _)) (Frz.aggc (by exact Frz.whole rfl rfl rfl rfl (by exact em_len _ _)) (Frz.aggc (by exact Frz.pure rfl) Frz.aggn))))) Frz.aggn)) (hF) (FlatI.sca rfl) rfl rfl ?_
   refine GL.un I0.mono rfl ?_
   refine GL.move I0.mono (by conv => lhs; whnf) ?_
   refine GL.guardT rfl ?_
   refine GL.call0 I0.mono rfl (Frz.aggn) (wakes11_ok) rfl rfl (fun _ => rfl) ?_
   refine GL.pick I0.mono rfl (by conv => lhs; whnf) ?_
   refine GL.assign I0.mono (by conv => lhs; whnf) ?_
   refine GL.doneF ?_
   refine goOn ?_
   refine Wp.retI ?_
   refine RetX.ret ?_
   refine ⟨_, _, _, _, .cons (.tmp rfl) .nil, .frz (.pure rfl), List.nodup_nil, by simp, ?_⟩
   rfl
  ·replace h142 := of_decide_eq_false h142
   refine Wp.seqI ?_
   refine Wp.regI I0.mono ?_
   refine GL.bin I0.mono rfl ?_
   refine GL.assign I0.mono (by conv => lhs; whnf) ?_
   refine GL.doneF ?_
   refine goOn ?_
   refine Wp.condI rfl (fun h149 => ?_) (fun h149 => ?_)
   ·replace h149 := of_decide_eq_true h149
    refine Wp.regI I0.mono ?_
    refine GL.fieldAddr I0.mono (o := 2) rfl rfl rfl rfl (by conv => lhs; whnf) ?_
    refine GL.load I0.mono rfl rfl rfl rfl (by simp) (by rfl) rfl ?_
    refine GL.move I0.mono (by conv => lhs; whnf) ?_
    refine GL.buildSlice0 I0.mono (sz := 1) (z := [LV.int .i64 0]) rfl rfl rfl rfl (by decide) (by decide) (by decide) (FrzP.cons (S := []) (T := []) (Frz.aggc (S := []) (T := []) (Frz.pure rfl) Frz.aggn) rfl (by decide) rfl (FrzP.nil)) (by conv => lhs; simp only [fillE, List.replicate, List.map, pureC, List.set_cons_zero, List.set_cons_succ]) ?_
    intro g154
    refine GL.append1 I0.mono (f := ni) (v := (1 + within x0 9)) (sz := 1) (z := [.int .i64 0]) rfl rfl rfl rfl rfl (by decide) (Nat.le_of_ble_eq_true rfl) rfl rfl rfl rfl rfl rfl rfl rfl rfl rfl rfl rfl rfl rfl rfl rfl (by omega) ?_
    refine GL.fieldAddr I0.mono (o := 2) rfl rfl rfl rfl (by conv => lhs; whnf) ?_
    refine GL.store I0.mono (n := 1) rfl rfl rfl rfl rfl rfl rfl rfl rfl rfl (Nat.le_of_ble_eq_true rfl) (by (conv => lhs; simp only [List.take_succ_cons, List.take_zero, List.drop_succ_cons, List.drop_zero, List.nil_append, List.cons_append, List.drop_nil, List.append_nil, List.take_nil, List.set_cons_zero, List.set_cons_succ, Nat.zero_add, ni, nr, nc, ns, np, ic, nt, ei, cellsL, kc, ec])) (by (conv => lhs; simp only [List.take_succ_cons, List.take_zero, List.drop_succ_cons, List.drop_zero, List.nil_append, List.cons_append, List.drop_nil, List.append_nil, List.take_nil, List.set_cons_zero, List.set_cons_succ, Nat.zero_add, ni, nr, nc, ns, np, ic, nt, ei, cellsL, kc, ec])) ?_
    refine GL.doneF ?_
    refine blockX.normal ?_
    have hF := hRf (T.t0 ++ [(1 + within x0 9)]) T.t1 T.t2 (by (rw [List.length_append]; simp; omega)) (by omega) (.inl snoc_ne)
    refine goOn ?_
    refine Wp.seqI ?_
    refine Wp.regI I0.mono ?_
    refine GL.loadW I0.mono (n := 4) rfl rfl rfl rfl (by simp) (by rfl) rfl rfl ?_
    refine GL.loadW I0.mono (n := 5) rfl rfl rfl rfl (by simp) (by rfl) rfl rfl ?_
    refine GL.callFl I0.mono rfl (Frz.aggc (Frz.aggc (by exact Frz.pure rfl) (Frz.aggc (by exact Frz.pure rfl) (Frz.aggc (by exact Frz.pure rfl) (Frz.aggc (by exact Frz.pure rfl) Frz.aggn)))) (Frz.aggc (Frz.aggc (by exact Frz.pure rfl) (Frz.aggc (by exact Frz.whole rfl rfl rfl rfl (by exact em_len _ _)) (Frz.aggc (by exact Frz.whole rfl rfl rfl rfl (by (rw [em_len, List.length_append]; rfl))) (Frz.aggc (by exact Frz.whole rfl rfl rfl rfl (by exact em_len _ _)) (Frz.aggc (by exact Frz.pure rfl) Frz.aggn))))) Frz.aggn)) (hF) (FlatI.sca rfl) rfl rfl ?_
    refine GL.un I0.mono rfl ?_
    refine GL.move I0.mono (by conv => lhs; whnf) ?_
    refine GL.guardT rfl ?_
    refine GL.call0 I0.mono rfl (Frz.aggn) (wakes11_ok) rfl rfl (fun _ => rfl) ?_
    refine GL.pick I0.mono rfl (by conv => lhs; whnf) ?_
    refine GL.assign I0.mono (by conv => lhs; whnf) ?_
    refine GL.doneF ?_
    refine goOn ?_
    refine Wp.retI ?_
    refine RetX.ret ?_
    refine ⟨_, _, _, _, .cons (.tmp rfl) .nil, .frz (.pure rfl), List.nodup_nil, by simp, ?_⟩
    rfl
   ·replace h149 := of_decide_eq_false h149
    refine Wp.seqI ?_
    refine Wp.regI I0.mono ?_
    refine GL.bin I0.mono rfl ?_
    refine GL.assign I0.mono (by conv => lhs; whnf) ?_
    refine GL.doneF ?_
    refine goOn ?_
    refine Wp.condI rfl (fun h157 => ?_) (fun h157 => ?_)
    ·replace h157 := of_decide_eq_true h157
     refine Wp.seqI ?_
     refine Wp.seqI ?_
     refine Wp.regI I0.mono ?_
     refine GL.move I0.mono (by conv => lhs; whnf) ?_
     refine GL.lenF I0.mono rfl rfl (em_len _ _) ?_
     refine GL.bin I0.mono rfl ?_
     refine GL.doneF ?_
     refine goOn ?_
     refine Wp.condI rfl (fun h161 => ?_) (fun h161 => ?_)
     ·replace h161 := of_decide_eq_true h161
      refine Wp.seqI ?_
      refine Wp.regI I0.mono ?_
      refine GL.call0 I0.mono rfl (Frz.aggn) (wakes11_ok) rfl rfl (fun _ => rfl) ?_
      refine GL.assign I0.mono (by conv => lhs; whnf) ?_
      refine GL.doneF ?_
      refine goOn ?_
      refine Wp.retI ?_
      refine thenX.ret ?_
      refine blockX.ret ?_
      refine thenX.ret ?_
      refine RetX.ret ?_
      refine ⟨_, _, _, _, .cons (.tmp rfl) .nil, .frz (.pure rfl), List.nodup_nil, by simp, ?_⟩
      rfl
     ·replace h161 := of_decide_eq_false h161
      refine Wp.skipI ?_
      refine goOn ?_
      refine Wp.regD ?_
      refine GL.fieldAddr I0.mono (o := 2) rfl rfl rfl rfl (by conv => lhs; whnf) ?_
      refine GL.load I0.mono rfl rfl rfl rfl (by simp) (by rfl) rfl ?_
      refine GL.move I0.mono (by conv => lhs; whnf) ?_
      refine GL.move I0.mono (by conv => lhs; whnf) ?_
      refine GL.lenF I0.mono rfl rfl (em_len _ _) ?_
      have hk := within_in (a := k0) (n := (r.length : Int)) (by omega)
      refine GL.call0 I0.mono rfl (Frz.aggc (by exact Frz.pure rfl) (Frz.aggc (by exact Frz.pure rfl) (Frz.aggn))) (within_ok _ _ (by omega)) rfl rfl (fun _ => rfl) ?_
      refine GL.indexAddr I0.mono (sz := 1) rfl rfl rfl rfl rfl rfl rfl rfl (by omega) (by omega) (by (conv => lhs; simp only [Nat.zero_add, Int.toNat_natCast])) ?_
      refine GL.load I0.mono rfl rfl rfl rfl (by simp) (by exact em_get (by omega)) rfl ?_
      refine GL.move I0.mono (by conv => lhs; whnf) ?_
      have hd := hD (within k0 (r.length : Int)).toNat (by omega)
      refine GL.addR I0.mono rfl rfl (by omega) ?_
      refine GL.indexAddr I0.mono (sz := 1) rfl rfl rfl rfl rfl rfl rfl rfl (by omega) (by omega) (by (conv => lhs; simp only [Nat.zero_add, Int.toNat_natCast])) ?_
      refine GL.storeS I0.mono (n := 1) (es' := em ni (T.t0.set (within k0 (r.length : Int)).toNat (T.t0.getD (within k0 (r.length : Int)).toNat default + (1 + within x0 9)))) rfl rfl rfl rfl rfl rfl (em_get (by omega)) rfl rfl rfl rfl (Nat.le_of_ble_eq_true rfl) rfl (em_set ni _ _ _) ?_
      refine GL.doneT (by kernel_rfl) ?_
      refine blockX.normal ?_
      have hF := hRf (T.t0.set (within k0 (r.length : Int)).toNat (T.t0.getD (within k0 (r.length : Int)).toNat default + (1 + within x0 9))) T.t1 T.t2 (by (rw [List.length_set]; omega)) (by omega) (.inl (set_ne (by omega) (by omega)))
      refine goOn ?_
      refine Wp.seqI ?_
      refine Wp.regI I0.mono ?_
      refine GL.loadW I0.mono (n := 4) rfl rfl rfl rfl (by simp) (by rfl) rfl rfl ?_
      refine GL.loadW I0.mono (n := 5) rfl rfl rfl rfl (by simp) (by rfl) rfl rfl ?_
      refine GL.callFl I0.mono rfl (Frz.aggc (Frz.aggc (by exact Frz.pure rfl) (Frz.aggc (by exact Frz.pure rfl) (Frz.aggc (by exact Frz.pure rfl) (Frz.aggc (by exact Frz.pure rfl) Frz.aggn)))) (Frz.aggc (Frz.aggc (by exact Frz.pure rfl) (Frz.aggc (by exact Frz.whole rfl rfl rfl rfl (by exact em_len _ _)) (Frz.aggc (by exact Frz.whole rfl rfl rfl rfl (by (rw [em_len]; show (List.set _ _ _).length = _; rw [List.length_set]))) (Frz.aggc (by exact Frz.whole rfl rfl rfl rfl (by exact em_len _ _)) (Frz.aggc (by exact Frz.pure rfl) Frz.aggn))))) Frz.aggn)) (hF) (FlatI.sca rfl) rfl rfl ?_
      refine GL.un I0.mono rfl ?_
      refine GL.move I0.mono (by conv => lhs; whnf) ?_
      refine GL.guardT rfl ?_
      refine GL.call0 I0.mono rfl (Frz.aggn) (wakes11_ok) rfl rfl (fun _ => rfl) ?_
      refine GL.pick I0.mono rfl (by conv => lhs; whnf) ?_
      refine GL.assign I0.mono (by conv => lhs; whnf) ?_
      refine GL.doneF ?_
      refine goOn ?_
      refine Wp.retI ?_
      refine RetX.ret ?_
      refine ⟨_, _, _, _, .cons (.tmp rfl) .nil, .frz (.pure rfl), List.nodup_nil, by simp, ?_⟩
      rfl
    ·replace h157 := of_decide_eq_false h157
     refine Wp.seqI ?_
     refine Wp.regI I0.mono ?_
     refine GL.bin I0.mono rfl ?_
     refine GL.assign I0.mono (by conv => lhs; whnf) ?_
     refine GL.doneF ?_
     refine goOn ?_
     refine Wp.condI rfl (fun h174 => ?_) (fun h174 => ?_)
     ·replace h174 := of_decide_eq_true h174
      refine Wp.seqI ?_
      refine Wp.seqI ?_
      refine Wp.regI I0.mono ?_
      refine GL.move I0.mono (by conv => lhs; whnf) ?_
      refine GL.lenF I0.mono rfl rfl (em_len _ _) ?_
      refine GL.bin I0.mono rfl ?_
      refine GL.doneF ?_
      refine goOn ?_
      refine Wp.condI rfl (fun h178 => ?_) (fun h178 => ?_)
      ·replace h178 := of_decide_eq_true h178
       refine Wp.seqI ?_
       refine Wp.regI I0.mono ?_
       refine GL.call0 I0.mono rfl (Frz.aggn) (wakes11_ok) rfl rfl (fun _ => rfl) ?_
       refine GL.assign I0.mono (by conv => lhs; whnf) ?_
       refine GL.doneF ?_
       refine goOn ?_
       refine Wp.retI ?_
       refine thenX.ret ?_
       refine blockX.ret ?_
       refine thenX.ret ?_
       refine RetX.ret ?_
       refine ⟨_, _, _, _, .cons (.tmp rfl) .nil, .frz (.pure rfl), List.nodup_nil, by simp, ?_⟩
       rfl
      ·replace h178 := of_decide_eq_false h178
       refine Wp.skipI ?_
       refine goOn ?_
       refine Wp.regD ?_
       refine GL.fieldAddr I0.mono (o := 3) rfl rfl rfl rfl (by conv => lhs; whnf) ?_
       refine GL.load I0.mono rfl rfl rfl rfl (by simp) (by rfl) rfl ?_
       refine GL.move I0.mono (by conv => lhs; whnf) ?_
       refine GL.move I0.mono (by conv => lhs; whnf) ?_
       refine GL.lenF I0.mono rfl rfl (em_len _ _) ?_
       have hk := within_in (a := k0) (n := (r.length : Int)) (by omega)
       refine GL.call0 I0.mono rfl (Frz.aggc (by exact Frz.pure rfl) (Frz.aggc (by exact Frz.pure rfl) (Frz.aggn))) (within_ok _ _ (by omega)) rfl rfl (fun _ => rfl) ?_
       refine GL.indexAddr I0.mono (sz := 1) rfl rfl rfl rfl rfl rfl rfl rfl (by omega) (by omega) (by (conv => lhs; simp only [Nat.zero_add, Int.toNat_natCast])) ?_
       refine GL.load I0.mono rfl rfl rfl rfl (by simp) (by exact em_get (by omega)) rfl ?_
       refine GL.move I0.mono (by conv => lhs; whnf) ?_
       have hd := hD (within k0 (r.length : Int)).toNat (by omega)
       refine GL.subR I0.mono rfl rfl (by omega) ?_
       refine GL.indexAddr I0.mono (sz := 1) rfl rfl rfl rfl rfl rfl rfl rfl (by omega) (by omega) (by (conv => lhs; simp only [Nat.zero_add, Int.toNat_natCast])) ?_
       refine GL.storeS I0.mono (n := 1) (es' := em ni (T.t1.set (within k0 (r.length : Int)).toNat (T.t1.getD (within k0 (r.length : Int)).toNat default - (1 + within x0 9)))) rfl rfl rfl rfl rfl rfl (em_get (by omega)) rfl rfl rfl rfl (Nat.le_of_ble_eq_true rfl) rfl (em_set ni _ _ _) ?_
       refine GL.doneT (by kernel_rfl) ?_
       refine blockX.normal ?_
       have hF := hRf T.t0 (T.t1.set (within k0 (r.length : Int)).toNat (T.t1.getD (within k0 (r.length : Int)).toNat default - (1 + within x0 9))) T.t2 (by omega) (by (rw [List.length_set]; omega)) (.inr (.inl (set_ne (by omega) (by omega))))
       refine goOn ?_
       refine Wp.seqI ?_
       refine Wp.regI I0.mono ?_
       refine GL.loadW I0.mono (n := 4) rfl rfl rfl rfl (by simp) (by rfl) rfl rfl ?_
       refine GL.loadW I0.mono (n := 5) rfl rfl rfl rfl (by simp) (by rfl) rfl rfl ?_
       refine GL.callFl I0.mono rfl (Frz.aggc (Frz.aggc (by exact Frz.pure rfl) (Frz.aggc (by exact Frz.pure rfl) (Frz.aggc (by exact Frz.pure rfl) (Frz.aggc (by exact Frz.pure rfl) Frz.aggn)))) (Frz.aggc (Frz.aggc (by exact Frz.pure rfl) (Frz.aggc (by exact Frz.whole rfl rfl rfl rfl (by exact em_len _ _)) (Frz.aggc (by exact Frz.whole rfl rfl rfl rfl (by exact em_len _ _)) (Frz.aggc (by exact Frz.whole rfl rfl rfl rfl (by (rw [em_len]; show (List.set _ _ _).length = _; rw [List.length_set]))) (Frz.aggc (by exact Frz.pure rfl) Frz.aggn))))) Frz.aggn)) (hF) (FlatI.sca rfl) rfl rfl ?_
       refine GL.un I0.mono rfl ?_
       refine GL.move I0.mono (by conv => lhs; whnf) ?_
       refine GL.guardT rfl ?_
       refine GL.call0 I0.mono rfl (Frz.aggn) (wakes11_ok) rfl rfl (fun _ => rfl) ?_
       refine GL.pick I0.mono rfl (by conv => lhs; whnf) ?_
       refine GL.assign I0.mono (by conv => lhs; whnf) ?_
       refine GL.doneF ?_
       refine goOn ?_
       refine Wp.retI ?_
       refine RetX.ret ?_
       refine ⟨_, _, _, _, .cons (.tmp rfl) .nil, .frz (.pure rfl), List.nodup_nil, by simp, ?_⟩
       rfl
     ·replace h174 := of_decide_eq_false h174
      refine Wp.seqI ?_
      refine Wp.regI I0.mono ?_
      refine GL.bin I0.mono rfl ?_
      refine GL.assign I0.mono (by conv => lhs; whnf) ?_
      refine GL.doneF ?_
      refine goOn ?_
      refine Wp.condI rfl (fun h191 => ?_) (fun h191 => ?_)
      ·replace h191 := of_decide_eq_true h191
       refine Wp.regI I0.mono ?_
       refine GL.fieldAddr I0.mono (o := 0) rfl rfl rfl rfl (by conv => lhs; whnf) ?_
       refine GL.load I0.mono rfl rfl rfl rfl (by simp) (by rfl) rfl ?_
       refine GL.lenF I0.mono rfl rfl (em_len _ _) ?_
       refine GL.subR I0.mono rfl rfl (by omega) ?_
       refine GL.move I0.mono (by conv => lhs; whnf) ?_
       refine GL.addR I0.mono rfl rfl (by omega) ?_
       refine GL.fieldAddr I0.mono (o := 0) rfl rfl rfl rfl (by conv => lhs; whnf) ?_
       refine GL.store I0.mono (n := 1) rfl rfl rfl rfl rfl rfl rfl rfl rfl rfl (Nat.le_of_ble_eq_true rfl) (by (conv => lhs; simp only [List.take_succ_cons, List.take_zero, List.drop_succ_cons, List.drop_zero, List.nil_append, List.cons_append, List.drop_nil, List.append_nil, List.take_nil, List.set_cons_zero, List.set_cons_succ, Nat.zero_add, ni, nr, nc, ns, np, ic, nt, ei, cellsL, kc, ec])) (by (conv => lhs; simp only [List.take_succ_cons, List.take_zero, List.drop_succ_cons, List.drop_zero, List.nil_append, List.cons_append, List.drop_nil, List.append_nil, List.take_nil, List.set_cons_zero, List.set_cons_succ, Nat.zero_add, ni, nr, nc, ns, np, ic, nt, ei, cellsL, kc, ec])) ?_
       refine GL.doneF ?_
       refine blockX.normal ?_
       have hF := hR2 ((I.cars.length : Int) - 1 + (1 + within x0 9)) (by omega)
       refine goOn ?_
       refine Wp.seqI ?_
       refine Wp.regI I0.mono ?_
       refine GL.loadW I0.mono (n := 4) rfl rfl rfl rfl (by simp) (by rfl) rfl rfl ?_
       refine GL.loadW I0.mono (n := 5) rfl rfl rfl rfl (by simp) (by rfl) rfl rfl ?_
       refine GL.callFl I0.mono rfl (Frz.aggc (Frz.aggc (by exact Frz.pure rfl) (Frz.aggc (by exact Frz.pure rfl) (Frz.aggc (by exact Frz.pure rfl) (Frz.aggc (by exact Frz.pure rfl) Frz.aggn)))) (Frz.aggc (Frz.aggc (by exact Frz.pure rfl) (Frz.aggc (by exact Frz.whole rfl rfl rfl rfl (by exact em_len _ _)) (Frz.aggc (by exact Frz.whole rfl rfl rfl rfl (by exact em_len _ _)) (Frz.aggc (by exact Frz.whole rfl rfl rfl rfl (by exact em_len _ _)) (Frz.aggc (by exact Frz.pure rfl) Frz.aggn))))) Frz.aggn)) (hF) (FlatI.sca rfl) rfl rfl ?_
       refine GL.un I0.mono rfl ?_
       refine GL.move I0.mono (by conv => lhs; whnf) ?_
       refine GL.guardT rfl ?_
       refine GL.call0 I0.mono rfl (Frz.aggn) (wakes11_ok) rfl rfl (fun _ => rfl) ?_
       refine GL.pick I0.mono rfl (by conv => lhs; whnf) ?_
       refine GL.assign I0.mono (by conv => lhs; whnf) ?_
       refine GL.doneF ?_
       refine goOn ?_
       refine Wp.retI ?_
       refine RetX.ret ?_
       refine ⟨_, _, _, _, .cons (.tmp rfl) .nil, .frz (.pure rfl), List.nodup_nil, by simp, ?_⟩
       rfl
      ·replace h191 := of_decide_eq_false h191
       refine Wp.seqI ?_
       refine Wp.seqI ?_
       refine Wp.regI I0.mono ?_
       refine GL.move I0.mono (by conv => lhs; whnf) ?_
       refine GL.lenF I0.mono rfl rfl (em_len _ _) ?_
       refine GL.bin I0.mono rfl ?_
       refine GL.doneF ?_
       refine goOn ?_
       refine Wp.condI rfl (fun h136 => ?_) (fun h136 => ?_)
       ·replace h136 := of_decide_eq_true h136
        refine Wp.seqI ?_
        refine Wp.regI I0.mono ?_
        refine GL.call0 I0.mono rfl (Frz.aggn) (wakes11_ok) rfl rfl (fun _ => rfl) ?_
        refine GL.assign I0.mono (by conv => lhs; whnf) ?_
        refine GL.doneF ?_
        refine goOn ?_
        refine Wp.retI ?_
        refine thenX.ret ?_
        refine blockX.ret ?_
        refine thenX.ret ?_
        refine RetX.ret ?_
        refine ⟨_, _, _, _, .cons (.tmp rfl) .nil, .frz (.pure rfl), List.nodup_nil, by simp, ?_⟩
        rfl
       ·replace h136 := of_decide_eq_false h136
        refine Wp.skipI ?_
        refine goOn ?_
        refine Wp.regI I0.mono ?_
        refine GL.fieldAddr I0.mono (o := 3) rfl rfl rfl rfl (by conv => lhs; whnf) ?_
        refine GL.load I0.mono rfl rfl rfl rfl (by simp) (by rfl) rfl ?_
        refine GL.sliceFromO I0.mono (sz := 1) rfl rfl rfl rfl rfl rfl rfl rfl (by omega) (by omega) (by rw [em_len]; omega) rfl rfl ?_
        refine GL.fieldAddr I0.mono (o := 3) rfl rfl rfl rfl (by conv => lhs; whnf) ?_
        refine GL.store I0.mono (n := 1) rfl rfl rfl rfl rfl rfl rfl rfl rfl rfl (Nat.le_of_ble_eq_true rfl) (by (conv => lhs; simp only [List.take_succ_cons, List.take_zero, List.drop_succ_cons, List.drop_zero, List.nil_append, List.cons_append, List.drop_nil, List.append_nil, List.take_nil, List.set_cons_zero, List.set_cons_succ, Nat.zero_add, ni, nr, nc, ns, np, ic, nt, ei, cellsL, kc, ec])) (by (conv => lhs; simp only [List.take_succ_cons, List.take_zero, List.drop_succ_cons, List.drop_zero, List.nil_append, List.cons_append, List.drop_nil, List.append_nil, List.take_nil, List.set_cons_zero, List.set_cons_succ, Nat.zero_add, ni, nr, nc, ns, np, ic, nt, ei, cellsL, kc, ec])) ?_
        refine GL.doneF ?_
        refine blockX.normal ?_
        have hF := hRf T.t0 (T.t1.drop 1) T.t2 (by omega) (by (rw [List.length_drop]; omega)) (.inr (.inl (tail_ne (by omega))))
        refine goOn ?_
        refine Wp.seqI ?_
        refine Wp.regI I0.mono ?_
        refine GL.loadW I0.mono (n := 4) rfl rfl rfl rfl (by simp) (by rfl) rfl rfl ?_
        refine GL.loadW I0.mono (n := 5) rfl rfl rfl rfl (by simp) (by rfl) rfl rfl ?_
        refine GL.callFl I0.mono rfl (Frz.aggc (Frz.aggc (by exact Frz.pure rfl) (Frz.aggc (by exact Frz.pure rfl) (Frz.aggc (by exact Frz.pure rfl) (Frz.aggc (by exact Frz.pure rfl) Frz.aggn)))) (Frz.aggc (Frz.aggc (by exact Frz.pure rfl) (Frz.aggc (by exact Frz.whole rfl rfl rfl rfl (by exact em_len _ _)) (Frz.aggc (by exact Frz.whole rfl rfl rfl rfl (by exact em_len _ _)) (Frz.aggc (by exact Frz.tail rfl rfl rfl rfl (by omega)) (Frz.aggc (by exact Frz.pure rfl) Frz.aggn))))) Frz.aggn)) (hF) (FlatI.sca rfl) rfl rfl ?_
        refine GL.un I0.mono rfl ?_
        refine GL.move I0.mono (by conv => lhs; whnf) ?_
        refine GL.guardT rfl ?_
        refine GL.call0 I0.mono rfl (Frz.aggn) (wakes11_ok) rfl rfl (fun _ => rfl) ?_
        refine GL.pick I0.mono rfl (by conv => lhs; whnf) ?_
        refine GL.assign I0.mono (by conv => lhs; whnf) ?_
        refine GL.doneF ?_
        refine goOn ?_
        refine Wp.retI ?_
        refine RetX.ret ?_
        refine ⟨_, _, _, _, .cons (.tmp rfl) .nil, .frz (.pure rfl), List.nodup_nil, by simp, ?_⟩
        rfl


theorem law_CertTells (z0 : List Int) (h0 : Ints z0) (z1 : List Int) (h1 : Ints z1) (car0 how k0 x0 : Int) : CallsV Try.prog 22 [.sl (em ni z0), .sl (em ni z1), .int .i64 car0, .int .i64 how, .int .i64 k0, .int .i64 x0] (.bool true) := by
  have hb := inst_sb z0
  have hr := row_short (instOf z0) z1
  have hm := make_own (instOf z0) hb.sq.short (within car0 ((instOf z0).cars.length + 1)) (rowOf (instOf z0) z1) (by unfold Short; omega)
  have he := reval_ok _ _ hb (inst_sp z0) (within car0 ((instOf z0).cars.length + 1)) (rowOf (instOf z0) z1) (by omega)
  have hR := fun A L x => right_at hb.sq.short (within car0 ((instOf z0).cars.length + 1)) (rowOf (instOf z0) z1) hr A L x
  have hc0 := within_in (a := car0) (n := (instOf z0).cars.length + 1) (by have := hb.sq.cars0; omega)
  generalize hc : within car0 ((instOf z0).cars.length + 1) = c at *
  cases hE : eval (instOf z0) c (rowOf (instOf z0) z1) with
  | none =>
    rw [certOf, hE] at hm
    rw [hE] at he hR
    exact ct_none z0 z1 car0 how k0 x0 (instOf z0) (nStops z0) hb (inst_ok z0 h0) _ (row_ok _ hb.sq.short z1 h1) hr c hc hm he fun A L x e1 e2 => hR A L x e1 e2
  | some T =>
    rw [certOf, hE] at hm
    rw [hE] at he hR
    have hcl : c < (instOf z0).cars.length := by
      refine Int.not_le.1 fun h => ?_
      unfold eval at hE
      rw [if_pos (.inr (.inl h))] at hE
      cases hE
    have hd := drv_of hb hc0.1 hcl (by omega) hE
    obtain ⟨q1, q2, q3, q4, q5, q6, q7, q8, q9, q10, q11, q12, q13⟩ := hd.home
    have hR2 : ∀ k : Int, ((instOf z0).cars.length : Int) ≤ k → CallsV Try.prog 59 [ei (instOf z0), ec ⟨k, rowOf (instOf z0) z1, T.t0, T.t1, T.t2⟩] (.bool false) := fun k hk => by
      have := right_at hb.sq.short k (rowOf (instOf z0) z1) hr T.t0 T.t1 T.t2 (by have := hd.len0; omega) (by have := hd.len1; omega)
      rwa [show eval (instOf z0) k (rowOf (instOf z0) z1) = none by unfold eval; rw [if_pos (.inr (.inl hk))]] at this
    refine ct_some z0 z1 car0 how k0 x0 (instOf z0) (nStops z0) hb (inst_ok z0 h0) _ (row_ok _ hb.sq.short z1 h1) hr c hc T hm he hd.len0 hd.len1 (fun j hj => ?_) (by omega) (by omega) ?_ (fun A L x e1 e2 e3 => ?_) hR2
    · obtain ⟨d1, d2, d3, d4, d5, d6, d7, d8, d9, d10, d11, d12, d13, d14, d15, d16, d17, d18, d19, d20, d21, d22, d23, d24, d25⟩ := hd.at' j hj
      have := d25
      obtain ⟨s1, s2, s3, s4, s5, s6, s7⟩ := this
      omega
    · have := hR T.t0 T.t1 T.t2 (by have := hd.len0; omega) (by have := hd.len1; omega)
      simpa using this
    · have := hR A L x e1 e2
      rwa [show ((some T).isSome && (decide (A = ((some T).getD zeroT).t0) && (decide (L = ((some T).getD zeroT).t1) && (x == ((some T).getD zeroT).t2)))) = false by
        simp only [Option.isSome_some, Option.getD_some, Bool.true_and]
        rcases e3 with e3 | e3 | e3
        · simp [e3]
        · simp [e3]
        · simp [e3]] at this

end Go.Proofs.Ytpepcfombibpeaa
