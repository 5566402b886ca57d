/- First plans, walked. -/
import Derived.Test.YtffnlhjdlhpmjaaProg
import Derived.Test.YtffnlhjdlhpmjaaLe
import Derived.Test.YtffnlhjdlhpmjaaMvD
import Derived.KernelRfl
set_option linter.all false
namespace Go.Proofs.Ytffnlhjdlhpmjaa
open Go.Proofs Mv
set_option maxRecDepth 100000 in
set_option maxHeartbeats 4000000 in
theorem held_ok (n : Nat) (hn : n ≤ 1000000) : CallsV Try.prog 86 [.int .i64 (n : Int)] (.slo 1 (em ni (List.replicate n (-1)))) := by
  refine CallsR.intro (I0.sound _) mix Try.func86 rfl rfl (by simp [Try.f86]) (by kernel_rfl) (nb := 0) ?_
  unfold Try.f86
  refine Wp.seqI ?_
  refine Wp.regI I0.mono ?_
  refine GL.assign I0.mono (by conv => lhs; whnf) ?_
  refine GL.doneF ?_
  refine goOn ?_
  refine Wp.seqI ?_
  refine Wp.regI I0.mono ?_
  refine GL.move I0.mono (by conv => lhs; whnf) ?_
  refine GL.makeSlice I0.mono (j := n) (sz := 1) (z := [.int .i64 0]) rfl rfl rfl rfl (by decide) rfl rfl (by omega) (by omega) (Nat.le_of_ble_eq_true rfl) (by omega) ?_
  intro g6
  rw [show List.replicate (n) (List.map pureC [LV.int .i64 0]) = em ni (List.replicate (n) 0) from by rw [em_replicate]; rfl]
  refine GL.assign I0.mono (by conv => lhs; whnf) ?_
  refine GL.doneF ?_
  refine goOn ?_
  refine Wp.seqI ?_
  refine Wp.seqI ?_
  refine Wp.regI I0.mono ?_
  refine GL.move I0.mono (by conv => lhs; whnf) ?_
  refine GL.lenO I0.mono rfl rfl rfl rfl ?_
  refine GL.move I0.mono (by conv => lhs; whnf) ?_
  refine GL.doneF ?_
  refine goOn ?_
  refine Wp.blockI ?_
  refine Wp.loopI I0.mono (α := Nat) (fun i st => (i ≤ n) ∧ ∃ m0, st = ⟨(updS (updS (updS (updS (fun _ => LV.undef) 3 (.own 384 g6 0 n none)) 7 (.own 384 g6 0 n none)) 8 (.int .i64 (n : Int))) 9 (.int .i64 (i : Int))), effM m0 [(384, ⟨g6, false, .slc, 1, em ni (fillN n (-1) i)⟩)]⟩) (fun i => n - i) 0 ⟨_, (LessS.weak (LessS.upd (LessS.upd (LessS.upd (LessS.upd (LessS.nil _) rfl) rfl) rfl) rfl) _), Nat.zero_le _, _, (congrArg (St.mk _) (effM_eq (Has.cons rfl Has.nil)).symm)⟩ ?_
  rintro i _ ⟨hi, m0, rfl⟩
  refine Wp.seqI ?_
  refine Wp.regI I0.mono ?_
  refine GL.bin I0.mono rfl ?_
  refine GL.doneF ?_
  refine goOn ?_
  refine Wp.seqI ?_
  refine Wp.condI rfl (fun h10 => ?_) (fun h10 => ?_)
  ·replace h10 := of_decide_eq_true h10
   refine Wp.skipI ?_
   refine goOn ?_
   refine Wp.seqI ?_
   refine Wp.blockI ?_
   refine Wp.seqI ?_
   refine Wp.regI I0.mono ?_
   refine GL.move I0.mono (by conv => lhs; whnf) ?_
   refine GL.assign I0.mono (by conv => lhs; whnf) ?_
   refine GL.doneF ?_
   refine goOn ?_
   refine Wp.regI I0.mono ?_
   refine GL.move I0.mono (by conv => lhs; whnf) ?_
   refine GL.move I0.mono (by conv => lhs; whnf) ?_
   refine GL.indexAddr I0.mono (sz := 1) (j := i) rfl rfl rfl rfl rfl rfl rfl rfl (by omega) (by omega) (by omega) ?_
   refine GL.storeS I0.mono (n := 1) rfl rfl rfl rfl rfl rfl (em_get (by rw [fillN_len (by omega)]; omega)) rfl rfl rfl rfl (Nat.le_of_ble_eq_true rfl) rfl (em_set ni _ _ (-1)) ?_
   rw [fillN_set (by omega)]
   refine GL.doneF ?_
   refine blockX.normal ?_
   refine goOn ?_
   refine Wp.regI I0.mono ?_
   refine GL.addR I0.mono rfl rfl (by omega) ?_
   refine GL.move I0.mono (by conv => lhs; whnf) ?_
   refine GL.doneF ?_
   refine ⟨i + 1, (by dsimp only; omega), _, (LessS.weak (LessS.upd (LessS.upd (LessS.upd (LessS.upd (LessS.nil _) rfl) rfl) rfl) rfl) _), (by omega), _, (congrArg (St.mk _) (effM_eq (Has.cons rfl Has.nil)).symm)⟩
  ·replace h10 := of_decide_eq_false h10
   refine Wp.exitI ?_
   refine thenX.exit ?_
   refine thenX.exit ?_
   refine blockX.out ?_
   refine goOn ?_
   refine Wp.seqI ?_
   refine Wp.regI I0.mono ?_
   refine GL.move I0.mono (by conv => lhs; whnf) ?_
   refine GL.assign I0.mono (by conv => lhs; whnf) ?_
   refine GL.doneF ?_
   refine goOn ?_
   refine Wp.retI ?_
   refine RetX.ret ?_
   refine ⟨_, _, _, _, .cons (.tmp rfl) .nil, .slo rfl rfl rfl rfl (by rw [em_len, fillN_len (by omega)]; omega), by simp, by simp, ?_⟩
   show LV.slo 1 (List.drop 0 (em ni (fillN n (-1) i))) = _
   rw [List.drop_zero, show i = n by omega, fillN_all]

set_option maxRecDepth 100000 in
set_option maxHeartbeats 4000000 in
theorem filled_ok (n : Nat) (hn : n ≤ 1000000) (x : Int) : CallsV Try.prog 74 [.int .i64 (n : Int), .int .i64 x] (.slo 1 (em ni (List.replicate n x))) := by
  refine CallsR.intro (I0.sound _) mix Try.func74 rfl rfl (by simp [Try.f74]) (by kernel_rfl) (nb := 0) ?_
  unfold Try.f74
  refine Wp.seqI ?_
  refine Wp.regI I0.mono ?_
  refine GL.assign I0.mono (by conv => lhs; whnf) ?_
  refine GL.doneF ?_
  refine goOn ?_
  refine Wp.seqI ?_
  refine Wp.regI I0.mono ?_
  refine GL.move I0.mono (by conv => lhs; whnf) ?_
  refine GL.makeSlice I0.mono (j := n) (sz := 1) (z := [.int .i64 0]) rfl rfl rfl rfl (by decide) rfl rfl (by omega) (by omega) (Nat.le_of_ble_eq_true rfl) (by omega) ?_
  intro g8
  rw [show List.replicate (n) (List.map pureC [LV.int .i64 0]) = em ni (List.replicate (n) 0) from by rw [em_replicate]; rfl]
  refine GL.assign I0.mono (by conv => lhs; whnf) ?_
  refine GL.doneF ?_
  refine goOn ?_
  refine Wp.seqI ?_
  refine Wp.seqI ?_
  refine Wp.regI I0.mono ?_
  refine GL.move I0.mono (by conv => lhs; whnf) ?_
  refine GL.lenO I0.mono rfl rfl rfl rfl ?_
  refine GL.move I0.mono (by conv => lhs; whnf) ?_
  refine GL.doneF ?_
  refine goOn ?_
  refine Wp.blockI ?_
  refine Wp.loopI I0.mono (α := Nat) (fun i st => (i ≤ n) ∧ ∃ m0, st = ⟨(updS (updS (updS (updS (updS (fun _ => LV.undef) 1 (.int .i64 x)) 5 (.own 512 g8 0 n none)) 9 (.own 512 g8 0 n none)) 10 (.int .i64 (n : Int))) 11 (.int .i64 (i : Int))), effM m0 [(512, ⟨g8, false, .slc, 1, em ni (fillN n x i)⟩)]⟩) (fun i => n - i) 0 ⟨_, (LessS.weak (LessS.upd (LessS.upd (LessS.upd (LessS.upd (LessS.upd (LessS.nil _) rfl) rfl) rfl) rfl) rfl) _), Nat.zero_le _, _, (congrArg (St.mk _) (effM_eq (Has.cons rfl Has.nil)).symm)⟩ ?_
  rintro i _ ⟨hi, m0, rfl⟩
  refine Wp.seqI ?_
  refine Wp.regI I0.mono ?_
  refine GL.bin I0.mono rfl ?_
  refine GL.doneF ?_
  refine goOn ?_
  refine Wp.seqI ?_
  refine Wp.condI rfl (fun h12 => ?_) (fun h12 => ?_)
  ·replace h12 := of_decide_eq_true h12
   refine Wp.skipI ?_
   refine goOn ?_
   refine Wp.seqI ?_
   refine Wp.blockI ?_
   refine Wp.seqI ?_
   refine Wp.regI I0.mono ?_
   refine GL.move I0.mono (by conv => lhs; whnf) ?_
   refine GL.assign I0.mono (by conv => lhs; whnf) ?_
   refine GL.doneF ?_
   refine goOn ?_
   refine Wp.regI I0.mono ?_
   refine GL.move I0.mono (by conv => lhs; whnf) ?_
   refine GL.move I0.mono (by conv => lhs; whnf) ?_
   refine GL.move I0.mono (by conv => lhs; whnf) ?_
   refine GL.indexAddr I0.mono (sz := 1) (j := i) rfl rfl rfl rfl rfl rfl rfl rfl (by omega) (by omega) (by omega) ?_
   refine GL.storeS I0.mono (n := 1) rfl rfl rfl rfl rfl rfl (em_get (by rw [fillN_len (by omega)]; omega)) rfl rfl rfl rfl (Nat.le_of_ble_eq_true rfl) rfl (em_set ni _ _ x) ?_
   rw [fillN_set (by omega)]
   refine GL.doneF ?_
   refine blockX.normal ?_
   refine goOn ?_
   refine Wp.regI I0.mono ?_
   refine GL.addR I0.mono rfl rfl (by omega) ?_
   refine GL.move I0.mono (by conv => lhs; whnf) ?_
   refine GL.doneF ?_
   refine ⟨i + 1, (by dsimp only; omega), _, (LessS.weak (LessS.upd (LessS.upd (LessS.upd (LessS.upd (LessS.upd (LessS.nil _) rfl) rfl) rfl) rfl) rfl) _), (by omega), _, (congrArg (St.mk _) (effM_eq (Has.cons rfl Has.nil)).symm)⟩
  ·replace h12 := of_decide_eq_false h12
   refine Wp.exitI ?_
   refine thenX.exit ?_
   refine thenX.exit ?_
   refine blockX.out ?_
   refine goOn ?_
   refine Wp.seqI ?_
   refine Wp.regI I0.mono ?_
   refine GL.move I0.mono (by conv => lhs; whnf) ?_
   refine GL.assign I0.mono (by conv => lhs; whnf) ?_
   refine GL.doneF ?_
   refine goOn ?_
   refine Wp.retI ?_
   refine RetX.ret ?_
   refine ⟨_, _, _, _, .cons (.tmp rfl) .nil, .slo rfl rfl rfl rfl (by rw [em_len, fillN_len (by omega)]; omega), by simp, by simp, ?_⟩
   show LV.slo 1 (List.drop 0 (em ni (fillN n x i))) = _
   rw [List.drop_zero, show i = n by omega, fillN_all]

theorem held_k (n : Nat) (hn : n ≤ 1000000) (k : Int) (hk : k = (n : Int)) : CallsV Try.prog 86 [.int .i64 k] (.slo 1 (em ni (List.replicate n (-1)))) := hk ▸ held_ok n hn
theorem filled_k (n : Nat) (hn : n ≤ 1000000) (k x : Int) (hk : k = (n : Int)) : CallsV Try.prog 74 [.int .i64 k, .int .i64 x] (.slo 1 (em ni (List.replicate n x))) := hk ▸ filled_ok n hn x
theorem kpo_new {i : Inst} (h : checkB i = true) : kpo (newP i) = .agg [.slo 1 (em nr (List.replicate i.cars.length [])), .slo 1 (em ni (List.replicate (i.stops.length + 1) (-1))), .slo 1 (em ni (List.replicate i.cars.length (-1))), .slo 1 (em ni (List.replicate i.cars.length 0)), .slo 1 (em ni (List.replicate (i.stops.length + 1) 0)), .slo 1 (em ni (List.replicate i.cars.length 0)), .int .i64 0] := by
  unfold newP
  rw [if_pos h]
  rfl
theorem kpo_zero {i : Inst} (h : ¬ checkB i = true) : kpo (newP i) = kpo zeroP := by
  unfold newP
  rw [if_neg h]

set_option maxRecDepth 100000 in
set_option maxHeartbeats 4000000 in
theorem new_ok (i : Inst) (hs : i.Short) : CallsV Try.prog 39 [ei i] (kpo (newP i)) := by
  refine CallsR.intro (I0.sound _) mix Try.func39 rfl rfl (by simp [Try.f39]) (by kernel_rfl) (nb := 0) ?_
  unfold Try.f39
  refine Wp.seqI ?_
  refine Wp.regI I0.mono ?_
  refine GL.box I0.mono (by conv => lhs; whnf) rfl (n := 4) rfl rfl ?_
  intro g1
  refine GL.alloc I0.mono (cs := [LV.nils, LV.nils, LV.nils, LV.nils, LV.nils, LV.nils, LV.int .i64 0]) rfl rfl ?_
  intro g2
  refine GL.doneF ?_
  refine goOn ?_
  refine Wp.seqI ?_
  refine Wp.seqI ?_
  refine Wp.regI I0.mono ?_
  refine GL.loadW I0.mono (n := 4) rfl rfl rfl rfl (by simp) rfl rfl rfl ?_
  refine GL.call0 I0.mono rfl (Frz.aggc (by exact Frz.pures rfl) (Frz.aggn)) (icheck_ok i hs) rfl rfl (fun _ => rfl) ?_
  refine GL.bin I0.mono rfl ?_
  refine GL.doneF ?_
  refine goOn ?_
  refine Wp.condI rfl (fun h7 => ?_) (fun h7 => ?_)
  ·replace h7 := bne_true h7
   have hno : ¬ checkB i = true := fun hc => by rw [if_pos hc] at h7; exact h7 rfl
   refine Wp.seqI ?_
   refine Wp.regI I0.mono ?_
   refine GL.buildS I0.mono (z := [LV.nils, LV.nils, LV.nils, LV.nils, LV.nils, LV.nils, LV.int .i64 0]) (cs := [_, _, _, _, _, _, _]) (n := 7) rfl rfl rfl (EvS.nil) rfl rfl ?_
   refine GL.storeW I0.mono (n := 7) rfl rfl rfl rfl rfl rfl rfl (by conv => lhs; whnf) rfl rfl rfl ?_
   refine GL.doneF ?_
   refine goOn ?_
   refine Wp.retI ?_
   refine thenX.ret ?_
   refine RetX.ret ?_
   refine ⟨_, _, _, _, .cons (.cellA (n := 7) rfl rfl rfl (by simp) rfl rfl rfl (Nat.le_of_ble_eq_true rfl)) .nil, (.aggc (by exact Exp.nils (sz := 1)) (.aggc (by exact Exp.nils (sz := 1)) (.aggc (by exact Exp.nils (sz := 1)) (.aggc (by exact Exp.nils (sz := 1)) (.aggc (by exact Exp.nils (sz := 1)) (.aggc (by exact Exp.nils (sz := 1)) (.aggc (by exact Exp.frz (Frz.pure rfl)) .aggn))))))), (by decide), by simp, ?_⟩
   show LV.agg _ = _
   (rw [kpo_zero hno]; rfl)
  ·replace h7 := bne_false h7
   have hok : checkB i = true := by
     by_cases hc : checkB i = true
     · exact hc
     · rw [if_neg hc] at h7; cases h7
   obtain ⟨c1, c2, c3⟩ := checkB_len hok
   refine Wp.skipI ?_
   refine goOn ?_
   refine Wp.seqI ?_
   refine Wp.regD ?_
   refine GL.fieldAddr I0.mono (o := 0) rfl rfl rfl rfl (by conv => lhs; whnf) ?_
   refine GL.load I0.mono rfl rfl rfl rfl (by simp) rfl rfl ?_
   refine GL.lenF I0.mono rfl rfl (em_len _ _) ?_
   refine GL.fieldAddr I0.mono (o := 1) rfl rfl rfl rfl (by conv => lhs; whnf) ?_
   refine GL.load I0.mono rfl rfl rfl rfl (by simp) rfl rfl ?_
   refine GL.lenF I0.mono rfl rfl (em_len _ _) ?_
   refine GL.addR I0.mono rfl rfl (by omega) ?_
   refine GL.assign I0.mono (by conv => lhs; whnf) ?_
   refine GL.assign I0.mono (by conv => lhs; whnf) ?_
   refine GL.doneT (by kernel_rfl) ?_
   refine goOn ?_
   refine Wp.seqI ?_
   refine Wp.regD ?_
   refine GL.move I0.mono (by conv => lhs; whnf) ?_
   refine GL.makeSlice I0.mono (j := i.cars.length) (sz := 1) (z := [.nils]) rfl rfl rfl rfl (by decide) rfl rfl (by omega) (by omega) (Nat.le_of_ble_eq_true rfl) (by omega) ?_
   intro g17
   rw [show List.replicate i.cars.length (List.map pureC [LV.nils]) = em nr (List.replicate i.cars.length []) from by rw [em_replicate]; rfl]
   refine GL.move I0.mono (by conv => lhs; whnf) ?_
   refine GL.callSlo I0.mono rfl (Frz.aggc (Frz.pure rfl) Frz.aggn) (held_k (i.stops.length + 1) (by omega) _ (by omega)) rfl (by rw [em_len, List.length_replicate]) ?_
   intro g19
   refine GL.move I0.mono (by conv => lhs; whnf) ?_
   refine GL.callSlo I0.mono rfl (Frz.aggc (Frz.pure rfl) Frz.aggn) (held_k i.cars.length (by omega) _ rfl) rfl (by rw [em_len, List.length_replicate]) ?_
   intro g21
   refine GL.move I0.mono (by conv => lhs; whnf) ?_
   refine GL.makeSlice I0.mono (j := i.cars.length) (sz := 1) (z := [.int .i64 0]) rfl rfl rfl rfl (by decide) rfl rfl (by omega) (by omega) (Nat.le_of_ble_eq_true rfl) (by omega) ?_
   intro g23
   rw [show List.replicate (i.cars.length) (List.map pureC [LV.int .i64 0]) = em ni (List.replicate (i.cars.length) 0) from by rw [em_replicate]; rfl]
   refine GL.move I0.mono (by conv => lhs; whnf) ?_
   refine GL.makeSlice I0.mono (j := (i.stops.length + 1)) (sz := 1) (z := [.int .i64 0]) rfl rfl rfl rfl (by decide) rfl rfl (by omega) (by omega) (Nat.le_of_ble_eq_true rfl) (by omega) ?_
   intro g25
   rw [show List.replicate ((i.stops.length + 1)) (List.map pureC [LV.int .i64 0]) = em ni (List.replicate ((i.stops.length + 1)) 0) from by rw [em_replicate]; rfl]
   refine GL.move I0.mono (by conv => lhs; whnf) ?_
   refine GL.makeSlice I0.mono (j := i.cars.length) (sz := 1) (z := [.int .i64 0]) rfl rfl rfl rfl (by decide) rfl rfl (by omega) (by omega) (Nat.le_of_ble_eq_true rfl) (by omega) ?_
   intro g27
   rw [show List.replicate (i.cars.length) (List.map pureC [LV.int .i64 0]) = em ni (List.replicate (i.cars.length) 0) from by rw [em_replicate]; rfl]
   refine GL.buildS I0.mono (z := [LV.nils, LV.nils, LV.nils, LV.nils, LV.nils, LV.nils, LV.int .i64 0]) (cs := [_, _, _, _, _, _, _]) (n := 7) rfl rfl rfl (EvS.cons (by conv => lhs; whnf) (EvS.cons (by conv => lhs; whnf) (EvS.cons (by conv => lhs; whnf) (EvS.cons (by conv => lhs; whnf) (EvS.cons (by conv => lhs; whnf) (EvS.cons (by conv => lhs; whnf) (EvS.nil))))))) rfl rfl ?_
   refine GL.storeW I0.mono (n := 7) rfl rfl rfl rfl rfl rfl rfl (by conv => lhs; whnf) rfl rfl rfl ?_
   refine GL.doneT (by kernel_rfl) ?_
   refine goOn ?_
   refine Wp.retI ?_
   refine RetX.ret ?_
   refine ⟨_, _, _, _, .cons (.cellA (n := 7) rfl rfl rfl (by simp) rfl rfl rfl (Nat.le_of_ble_eq_true rfl)) .nil, (.aggc (by exact Exp.sloW rfl rfl rfl rfl rfl rfl (by rw [em_len, List.length_replicate])) (.aggc (by exact Exp.sloW rfl rfl rfl rfl rfl rfl (by rw [em_len, List.length_replicate])) (.aggc (by exact Exp.sloW rfl rfl rfl rfl rfl rfl (by rw [em_len, List.length_replicate])) (.aggc (by exact Exp.sloW rfl rfl rfl rfl rfl rfl (by rw [em_len, List.length_replicate])) (.aggc (by exact Exp.sloW rfl rfl rfl rfl rfl rfl (by rw [em_len, List.length_replicate])) (.aggc (by exact Exp.sloW rfl rfl rfl rfl rfl rfl (by rw [em_len, List.length_replicate])) (.aggc (by exact Exp.frz (Frz.pure rfl)) .aggn))))))), (by decide), by simp, ?_⟩
   show LV.agg _ = _
   (rw [kpo_new hok])

set_option maxRecDepth 100000 in
set_option maxHeartbeats 4000000 in
theorem rnew_ok (i : Inst) (hs : i.Short) : CallsV Try.prog 31 [ei i] (kpo (newP i)) := by
  refine CallsR.intro (I0.sound _) mix Try.func31 rfl rfl (by simp [Try.f31]) (by kernel_rfl) (nb := 0) ?_
  unfold Try.f31
  refine Wp.seqI ?_
  refine Wp.regI I0.mono ?_
  refine GL.box I0.mono (by conv => lhs; whnf) rfl (n := 4) rfl rfl ?_
  intro g1
  refine GL.alloc I0.mono (cs := [LV.nils, LV.nils, LV.nils, LV.nils, LV.nils, LV.nils, LV.int .i64 0]) rfl rfl ?_
  intro g2
  refine GL.doneF ?_
  refine goOn ?_
  refine Wp.seqI ?_
  refine Wp.seqI ?_
  refine Wp.regI I0.mono ?_
  refine GL.loadW I0.mono (n := 4) rfl rfl rfl rfl (by simp) rfl rfl rfl ?_
  refine GL.call0 I0.mono rfl (Frz.aggc (by exact Frz.pures rfl) (Frz.aggn)) (rcheck_ok i hs) rfl rfl (fun _ => rfl) ?_
  refine GL.un I0.mono rfl ?_
  refine GL.doneF ?_
  refine goOn ?_
  refine Wp.condI rfl (fun h7 => ?_) (fun h7 => ?_)
  ·skip
   have hno : ¬ checkB i = true := by rw [nf h7]; simp
   refine Wp.seqI ?_
   refine Wp.regI I0.mono ?_
   refine GL.buildS I0.mono (z := [LV.nils, LV.nils, LV.nils, LV.nils, LV.nils, LV.nils, LV.int .i64 0]) (cs := [_, _, _, _, _, _, _]) (n := 7) rfl rfl rfl (EvS.nil) rfl rfl ?_
   refine GL.storeW I0.mono (n := 7) rfl rfl rfl rfl rfl rfl rfl (by conv => lhs; whnf) rfl rfl rfl ?_
   refine GL.doneF ?_
   refine goOn ?_
   refine Wp.retI ?_
   refine thenX.ret ?_
   refine RetX.ret ?_
   refine ⟨_, _, _, _, .cons (.cellA (n := 7) rfl rfl rfl (by simp) rfl rfl rfl (Nat.le_of_ble_eq_true rfl)) .nil, (.aggc (by exact Exp.nils (sz := 1)) (.aggc (by exact Exp.nils (sz := 1)) (.aggc (by exact Exp.nils (sz := 1)) (.aggc (by exact Exp.nils (sz := 1)) (.aggc (by exact Exp.nils (sz := 1)) (.aggc (by exact Exp.nils (sz := 1)) (.aggc (by exact Exp.frz (Frz.pure rfl)) .aggn))))))), (by decide), by simp, ?_⟩
   show LV.agg _ = _
   (rw [kpo_zero hno]; rfl)
  ·skip
   have hok : checkB i = true := nt h7
   obtain ⟨c1, c2, c3⟩ := checkB_len hok
   refine Wp.skipI ?_
   refine goOn ?_
   refine Wp.seqI ?_
   refine Wp.regD ?_
   refine GL.fieldAddr I0.mono (o := 0) rfl rfl rfl rfl (by conv => lhs; whnf) ?_
   refine GL.load I0.mono rfl rfl rfl rfl (by simp) rfl rfl ?_
   refine GL.lenF I0.mono rfl rfl (em_len _ _) ?_
   refine GL.fieldAddr I0.mono (o := 1) rfl rfl rfl rfl (by conv => lhs; whnf) ?_
   refine GL.load I0.mono rfl rfl rfl rfl (by simp) rfl rfl ?_
   refine GL.lenF I0.mono rfl rfl (em_len _ _) ?_
   refine GL.addR I0.mono rfl rfl (by omega) ?_
   refine GL.assign I0.mono (by conv => lhs; whnf) ?_
   refine GL.assign I0.mono (by conv => lhs; whnf) ?_
   refine GL.doneT (by kernel_rfl) ?_
   refine goOn ?_
   refine Wp.seqI ?_
   refine Wp.regD ?_
   refine GL.move I0.mono (by conv => lhs; whnf) ?_
   refine GL.makeSlice I0.mono (j := i.cars.length) (sz := 1) (z := [.nils]) rfl rfl rfl rfl (by decide) rfl rfl (by omega) (by omega) (Nat.le_of_ble_eq_true rfl) (by omega) ?_
   intro g17
   rw [show List.replicate i.cars.length (List.map pureC [LV.nils]) = em nr (List.replicate i.cars.length []) from by rw [em_replicate]; rfl]
   refine GL.move I0.mono (by conv => lhs; whnf) ?_
   refine GL.callSlo I0.mono rfl (Frz.aggc (Frz.pure rfl) (Frz.aggc (Frz.pure rfl) Frz.aggn)) (filled_k (i.stops.length + 1) (by omega) _ _ (by omega)) rfl (by rw [em_len, List.length_replicate]) ?_
   intro g19
   refine GL.move I0.mono (by conv => lhs; whnf) ?_
   refine GL.callSlo I0.mono rfl (Frz.aggc (Frz.pure rfl) (Frz.aggc (Frz.pure rfl) Frz.aggn)) (filled_k i.cars.length (by omega) _ _ rfl) rfl (by rw [em_len, List.length_replicate]) ?_
   intro g21
   refine GL.move I0.mono (by conv => lhs; whnf) ?_
   refine GL.callSlo I0.mono rfl (Frz.aggc (Frz.pure rfl) (Frz.aggc (Frz.pure rfl) Frz.aggn)) (filled_k i.cars.length (by omega) _ _ rfl) rfl (by rw [em_len, List.length_replicate]) ?_
   intro g23
   refine GL.move I0.mono (by conv => lhs; whnf) ?_
   refine GL.callSlo I0.mono rfl (Frz.aggc (Frz.pure rfl) (Frz.aggc (Frz.pure rfl) Frz.aggn)) (filled_k (i.stops.length + 1) (by omega) _ _ (by omega)) rfl (by rw [em_len, List.length_replicate]) ?_
   intro g25
   refine GL.move I0.mono (by conv => lhs; whnf) ?_
   refine GL.callSlo I0.mono rfl (Frz.aggc (Frz.pure rfl) (Frz.aggc (Frz.pure rfl) Frz.aggn)) (filled_k i.cars.length (by omega) _ _ rfl) rfl (by rw [em_len, List.length_replicate]) ?_
   intro g27
   refine GL.buildS I0.mono (z := [LV.nils, LV.nils, LV.nils, LV.nils, LV.nils, LV.nils, LV.int .i64 0]) (cs := [_, _, _, _, _, _, _]) (n := 7) rfl rfl rfl (EvS.cons (by conv => lhs; whnf) (EvS.cons (by conv => lhs; whnf) (EvS.cons (by conv => lhs; whnf) (EvS.cons (by conv => lhs; whnf) (EvS.cons (by conv => lhs; whnf) (EvS.cons (by conv => lhs; whnf) (EvS.nil))))))) rfl rfl ?_
   refine GL.storeW I0.mono (n := 7) rfl rfl rfl rfl rfl rfl rfl (by conv => lhs; whnf) rfl rfl rfl ?_
   refine GL.doneT (by kernel_rfl) ?_
   refine goOn ?_
   refine Wp.retI ?_
   refine RetX.ret ?_
   refine ⟨_, _, _, _, .cons (.cellA (n := 7) rfl rfl rfl (by simp) rfl rfl rfl (Nat.le_of_ble_eq_true rfl)) .nil, (.aggc (by exact Exp.sloW rfl rfl rfl rfl rfl rfl (by rw [em_len, List.length_replicate])) (.aggc (by exact Exp.sloW rfl rfl rfl rfl rfl rfl (by rw [em_len, List.length_replicate])) (.aggc (by exact Exp.sloW rfl rfl rfl rfl rfl rfl (by rw [em_len, List.length_replicate])) (.aggc (by exact Exp.sloW rfl rfl rfl rfl rfl rfl (by rw [em_len, List.length_replicate])) (.aggc (by exact Exp.sloW rfl rfl rfl rfl rfl rfl (by rw [em_len, List.length_replicate])) (.aggc (by exact Exp.sloW rfl rfl rfl rfl rfl rfl (by rw [em_len, List.length_replicate])) (.aggc (by exact Exp.frz (Frz.pure rfl)) .aggn))))))), (by decide), by simp, ?_⟩
   show LV.agg _ = _
   (rw [kpo_new hok])

theorem new_f (i : Inst) (hs : i.Short) : CallsV Try.prog 39 [ei i] (.agg (kp (newP i))) := (new_ok i hs).freeze rfl
theorem rnew_f (i : Inst) (hs : i.Short) : CallsV Try.prog 31 [ei i] (.agg (kp (newP i))) := (rnew_ok i hs).freeze rfl

end Go.Proofs.Ytffnlhjdlhpmjaa
