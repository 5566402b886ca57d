/- The functions of the tables of a route, walked. -/
import Derived.Test.YtpepcfombibpeaaFa
import Derived.Test.YtpepcfombibpeaaMvC
import Derived.KernelRfl
set_option linter.unusedVariables false
set_option linter.unusedSimpArgs false
namespace Go.Proofs.Ytpepcfombibpeaa
open Go.Proofs Mv



theorem nbt {b : Bool} (h : (!b) = false) : b = true := by simpa using h
theorem nbf {b : Bool} (h : (!b) = true) : b = false := by simpa using h
theorem isT_iff {i : Inst} {c s : Int} : isT i c s = true ↔ 0 ≤ c ∧ c < i.cars.length ∧ 0 ≤ s ∧ s ≤ i.stops.length := by simp [isT]

set_option maxRecDepth 100000 in
set_option maxHeartbeats 4000000 in
theorem isT_ok (i : Inst) (hs : i.Short) (c s : Int) : CallsV Try.prog 69 [ei i, .int .i64 c, .int .i64 s] (.bool (isT i c s)) := by
  refine CallsR.intro (I0.sound _) mix Try.func69 rfl rfl (by simp [Try.f69]) (by kernel_rfl) (nb := 0) ?_
  unfold Try.f69
  refine Wp.seqI ?_
  refine Wp.regI I0.mono ?_
  refine GL.box I0.mono (by conv => lhs; whnf) rfl (n := 4) rfl rfl ?_
  intro g3
  refine GL.assign I0.mono (by conv => lhs; whnf) ?_
  refine GL.doneF ?_
  refine goOn ?_
  refine Wp.seqI ?_
  have hc := hs.cars
  have hq := hs.stops
  unfold Short at hc hq
  refine Wp.regI I0.mono ?_
  refine GL.move I0.mono (by conv => lhs; whnf) ?_
  refine GL.bin I0.mono rfl ?_
  refine GL.move I0.mono (by conv => lhs; whnf) ?_
  refine GL.splitAt 9 rfl (fun h9 => ?_) (fun h9 => ?_)
  ·rw [h9]
   replace h9 := of_decide_eq_true h9
   refine GL.guardT rfl ?_
   refine GL.move I0.mono (by conv => lhs; whnf) ?_
   refine GL.guardT rfl ?_
   refine GL.fieldAddr I0.mono (o := 0) rfl rfl rfl rfl (by conv => lhs; whnf) ?_
   refine GL.guardT rfl ?_
   refine GL.load I0.mono rfl rfl rfl rfl (by simp) rfl rfl ?_
   refine GL.guardT rfl ?_
   refine GL.lenF I0.mono rfl rfl (em_len _ _) ?_
   refine GL.guardT rfl ?_
   refine GL.bin I0.mono rfl ?_
   refine GL.pick I0.mono rfl (by conv => lhs; whnf) ?_
   refine GL.move I0.mono (by conv => lhs; whnf) ?_
   refine GL.splitAt 16 rfl (fun h16 => ?_) (fun h16 => ?_)
   ·rw [h16]
    replace h16 := of_decide_eq_true h16
    refine GL.guardT rfl ?_
    refine GL.move I0.mono (by conv => lhs; whnf) ?_
    refine GL.guardT rfl ?_
    refine GL.bin I0.mono rfl ?_
    refine GL.pick I0.mono rfl (by conv => lhs; whnf) ?_
    refine GL.move I0.mono (by conv => lhs; whnf) ?_
    refine GL.splitAt 20 rfl (fun h20 => ?_) (fun h20 => ?_)
    ·rw [h20]
     replace h20 := of_decide_eq_true h20
     refine GL.guardT rfl ?_
     refine GL.move I0.mono (by conv => lhs; whnf) ?_
     refine GL.guardT rfl ?_
     refine GL.fieldAddr I0.mono (o := 1) rfl rfl rfl rfl (by conv => lhs; whnf) ?_
     refine GL.guardT rfl ?_
     refine GL.load I0.mono rfl rfl rfl rfl (by simp) rfl rfl ?_
     refine GL.guardT rfl ?_
     refine GL.lenF I0.mono rfl rfl (em_len _ _) ?_
     refine GL.guardT rfl ?_
     refine GL.bin I0.mono rfl ?_
     refine GL.pick I0.mono rfl (by conv => lhs; whnf) ?_
     refine GL.assign I0.mono (by conv => lhs; whnf) ?_
     refine GL.doneF ?_
     refine goOn ?_
     refine Wp.retI ?_
     refine RetX.ret ?_
     refine ⟨_, _, _, _, .cons (.tmp rfl) .nil, .frz (.pure rfl), List.nodup_nil, by simp, ?_⟩
     exact congrArg LV.bool (by unfold isT; first | (simp [*]; done) | (simp [*]; omega))
    ·rw [h20]
     replace h20 := of_decide_eq_false h20
     refine GL.guardF rfl ?_
     refine GL.guardF rfl ?_
     refine GL.guardF rfl ?_
     refine GL.guardF rfl ?_
     refine GL.guardF rfl ?_
     refine GL.pick I0.mono rfl (by conv => lhs; whnf) ?_
     refine GL.assign I0.mono (by conv => lhs; whnf) ?_
     refine GL.doneF ?_
     refine goOn ?_
     refine Wp.retI ?_
     refine RetX.ret ?_
     refine ⟨_, _, _, _, .cons (.tmp rfl) .nil, .frz (.pure rfl), List.nodup_nil, by simp, ?_⟩
     exact congrArg LV.bool (by unfold isT; first | (simp [*]; done) | (simp [*]; omega))
   ·rw [h16]
    replace h16 := of_decide_eq_false h16
    refine GL.guardF rfl ?_
    refine GL.guardF rfl ?_
    refine GL.pick I0.mono rfl (by conv => lhs; whnf) ?_
    refine GL.move I0.mono (by conv => lhs; whnf) ?_
    refine GL.guardF rfl ?_
    refine GL.guardF rfl ?_
    refine GL.guardF rfl ?_
    refine GL.guardF rfl ?_
    refine GL.guardF rfl ?_
    refine GL.pick I0.mono rfl (by conv => lhs; whnf) ?_
    refine GL.assign I0.mono (by conv => lhs; whnf) ?_
    refine GL.doneF ?_
    refine goOn ?_
    refine Wp.retI ?_
    refine RetX.ret ?_
    refine ⟨_, _, _, _, .cons (.tmp rfl) .nil, .frz (.pure rfl), List.nodup_nil, by simp, ?_⟩
    exact congrArg LV.bool (by unfold isT; first | (simp [*]; done) | (simp [*]; omega))
  ·rw [h9]
   replace h9 := of_decide_eq_false h9
   refine GL.guardF rfl ?_
   refine GL.guardF rfl ?_
   refine GL.guardF rfl ?_
   refine GL.guardF rfl ?_
   refine GL.guardF rfl ?_
   refine GL.pick I0.mono rfl (by conv => lhs; whnf) ?_
   refine GL.move I0.mono (by conv => lhs; whnf) ?_
   refine GL.guardF rfl ?_
   refine GL.guardF rfl ?_
   refine GL.pick I0.mono rfl (by conv => lhs; whnf) ?_
   refine GL.move I0.mono (by conv => lhs; whnf) ?_
   refine GL.guardF rfl ?_
   refine GL.guardF rfl ?_
   refine GL.guardF rfl ?_
   refine GL.guardF rfl ?_
   refine GL.guardF rfl ?_
   refine GL.pick I0.mono rfl (by conv => lhs; whnf) ?_
   refine GL.assign I0.mono (by conv => lhs; whnf) ?_
   refine GL.doneF ?_
   refine goOn ?_
   refine Wp.retI ?_
   refine RetX.ret ?_
   refine ⟨_, _, _, _, .cons (.tmp rfl) .nil, .frz (.pure rfl), List.nodup_nil, by simp, ?_⟩
   exact congrArg LV.bool (by unfold isT; first | (simp [*]; done) | (simp [*]; omega))

set_option maxRecDepth 100000 in
set_option maxHeartbeats 4000000 in
theorem drive_ok (i : Inst) (hs : i.Short) (a b : Int) : CallsV Try.prog 70 [ei i, .int .i64 a, .int .i64 b] (.int .i64 (drive i a b)) := by
  refine CallsR.intro (I0.sound _) mix Try.func70 rfl rfl (by simp [Try.f70]) (by kernel_rfl) (nb := 0) ?_
  unfold Try.f70
  refine Wp.seqI ?_
  refine Wp.regI I0.mono ?_
  refine GL.box I0.mono (by conv => lhs; whnf) rfl (n := 4) rfl rfl ?_
  intro g3
  refine GL.assign I0.mono (by conv => lhs; whnf) ?_
  refine GL.doneF ?_
  refine goOn ?_
  refine Wp.seqI ?_
  refine Wp.seqI ?_
  have hc := hs.travel
  have hr := hs.row a.toNat
  unfold Short at hc
  refine Wp.regI I0.mono ?_
  refine GL.move I0.mono (by conv => lhs; whnf) ?_
  refine GL.bin I0.mono rfl ?_
  refine GL.move I0.mono (by conv => lhs; whnf) ?_
  refine GL.splitAt 9 rfl (fun h9 => ?_) (fun h9 => ?_)
  ·rw [h9]
   replace h9 := of_decide_eq_true h9
   refine GL.guardF rfl ?_
   refine GL.guardF rfl ?_
   refine GL.guardF rfl ?_
   refine GL.guardF rfl ?_
   refine GL.guardF rfl ?_
   refine GL.pick I0.mono rfl (by conv => lhs; whnf) ?_
   refine GL.move I0.mono (by conv => lhs; whnf) ?_
   refine GL.guardF rfl ?_
   refine GL.guardF rfl ?_
   refine GL.pick I0.mono rfl (by conv => lhs; whnf) ?_
   refine GL.move I0.mono (by conv => lhs; whnf) ?_
   refine GL.guardF rfl ?_
   refine GL.guardF rfl ?_
   refine GL.guardF rfl ?_
   refine GL.guardF rfl ?_
   refine GL.guardF rfl ?_
   refine GL.guardF rfl ?_
   refine GL.guardF rfl ?_
   refine GL.guardF rfl ?_
   refine GL.pick I0.mono rfl (by conv => lhs; whnf) ?_
   refine GL.doneF ?_
   refine goOn ?_
   refine Wp.condT rfl ?_
   refine Wp.seqI ?_
   refine Wp.regI I0.mono ?_
   refine GL.assign I0.mono (by conv => lhs; whnf) ?_
   refine GL.doneF ?_
   refine goOn ?_
   refine Wp.retI ?_
   refine thenX.ret ?_
   refine RetX.ret ?_
   refine ⟨_, _, _, _, .cons (.tmp rfl) .nil, .frz (.pure rfl), List.nodup_nil, by simp, ?_⟩
   exact congrArg (LV.int .i64) (by unfold drive; first | rw [if_pos (by omega)] | (rw [if_neg (by omega)]))
  ·rw [h9]
   replace h9 := of_decide_eq_false h9
   refine GL.guardT rfl ?_
   refine GL.move I0.mono (by conv => lhs; whnf) ?_
   refine GL.guardT rfl ?_
   refine GL.fieldAddr I0.mono (o := 3) rfl rfl rfl rfl (by conv => lhs; whnf) ?_
   refine GL.guardT rfl ?_
   refine GL.load I0.mono rfl rfl rfl rfl (by simp) rfl rfl ?_
   refine GL.guardT rfl ?_
   refine GL.lenF I0.mono rfl rfl (em_len _ _) ?_
   refine GL.guardT rfl ?_
   refine GL.bin I0.mono rfl ?_
   refine GL.pick I0.mono rfl (by conv => lhs; whnf) ?_
   refine GL.move I0.mono (by conv => lhs; whnf) ?_
   refine GL.splitAt 16 rfl (fun h16 => ?_) (fun h16 => ?_)
   ·rw [h16]
    replace h16 := of_decide_eq_true h16
    refine GL.guardF rfl ?_
    refine GL.guardF rfl ?_
    refine GL.pick I0.mono rfl (by conv => lhs; whnf) ?_
    refine GL.move I0.mono (by conv => lhs; whnf) ?_
    refine GL.guardF rfl ?_
    refine GL.guardF rfl ?_
    refine GL.guardF rfl ?_
    refine GL.guardF rfl ?_
    refine GL.guardF rfl ?_
    refine GL.guardF rfl ?_
    refine GL.guardF rfl ?_
    refine GL.guardF rfl ?_
    refine GL.pick I0.mono rfl (by conv => lhs; whnf) ?_
    refine GL.doneF ?_
    refine goOn ?_
    refine Wp.condT rfl ?_
    refine Wp.seqI ?_
    refine Wp.regI I0.mono ?_
    refine GL.assign I0.mono (by conv => lhs; whnf) ?_
    refine GL.doneF ?_
    refine goOn ?_
    refine Wp.retI ?_
    refine thenX.ret ?_
    refine RetX.ret ?_
    refine ⟨_, _, _, _, .cons (.tmp rfl) .nil, .frz (.pure rfl), List.nodup_nil, by simp, ?_⟩
    exact congrArg (LV.int .i64) (by unfold drive; first | rw [if_pos (by omega)] | (rw [if_neg (by omega)]))
   ·rw [h16]
    replace h16 := of_decide_eq_false h16
    refine GL.guardT rfl ?_
    refine GL.move I0.mono (by conv => lhs; whnf) ?_
    refine GL.guardT rfl ?_
    refine GL.bin I0.mono rfl ?_
    refine GL.pick I0.mono rfl (by conv => lhs; whnf) ?_
    refine GL.move I0.mono (by conv => lhs; whnf) ?_
    refine GL.splitAt 20 rfl (fun h20 => ?_) (fun h20 => ?_)
    ·rw [h20]
     replace h20 := of_decide_eq_true h20
     refine GL.guardF rfl ?_
     refine GL.guardF rfl ?_
     refine GL.guardF rfl ?_
     refine GL.guardF rfl ?_
     refine GL.guardF rfl ?_
     refine GL.guardF rfl ?_
     refine GL.guardF rfl ?_
     refine GL.guardF rfl ?_
     refine GL.pick I0.mono rfl (by conv => lhs; whnf) ?_
     refine GL.doneF ?_
     refine goOn ?_
     refine Wp.condT rfl ?_
     refine Wp.seqI ?_
     refine Wp.regI I0.mono ?_
     refine GL.assign I0.mono (by conv => lhs; whnf) ?_
     refine GL.doneF ?_
     refine goOn ?_
     refine Wp.retI ?_
     refine thenX.ret ?_
     refine RetX.ret ?_
     refine ⟨_, _, _, _, .cons (.tmp rfl) .nil, .frz (.pure rfl), List.nodup_nil, by simp, ?_⟩
     exact congrArg (LV.int .i64) (by unfold drive; first | rw [if_pos (by omega)] | (rw [if_neg (by omega)]))
    ·rw [h20]
     replace h20 := of_decide_eq_false h20
     refine GL.guardT rfl ?_
     refine GL.move I0.mono (by conv => lhs; whnf) ?_
     refine GL.guardT rfl ?_
     refine GL.fieldAddr I0.mono (o := 3) rfl rfl rfl rfl (by conv => lhs; whnf) ?_
     refine GL.guardT rfl ?_
     refine GL.load I0.mono rfl rfl rfl rfl (by simp) rfl rfl ?_
     refine GL.guardT rfl ?_
     refine GL.move I0.mono (by conv => lhs; whnf) ?_
     refine GL.guardT rfl ?_
     refine GL.indexAddrF I0.mono (sz := 1) rfl rfl rfl rfl (by omega) (by (rw [em_len]; omega)) (by intro e he; obtain ⟨a, -, rfl⟩ := List.mem_map.1 he; rfl) (by rfl) ?_
     refine GL.guardT rfl ?_
     refine GL.loadF I0.mono rfl rfl (em_get (by omega)) rfl ?_
     refine GL.guardT rfl ?_
     refine GL.lenF I0.mono rfl rfl (em_len _ _) ?_
     refine GL.guardT rfl ?_
     refine GL.bin I0.mono rfl ?_
     refine GL.pick I0.mono rfl (by conv => lhs; whnf) ?_
     refine GL.doneF ?_
     refine goOn ?_
     refine Wp.condI rfl (fun h29 => ?_) (fun h29 => ?_)
     ·replace h29 := of_decide_eq_true h29
      refine Wp.seqI ?_
      refine Wp.regI I0.mono ?_
      refine GL.assign I0.mono (by conv => lhs; whnf) ?_
      refine GL.doneF ?_
      refine goOn ?_
      refine Wp.retI ?_
      refine thenX.ret ?_
      refine RetX.ret ?_
      refine ⟨_, _, _, _, .cons (.tmp rfl) .nil, .frz (.pure rfl), List.nodup_nil, by simp, ?_⟩
      exact congrArg (LV.int .i64) (by unfold drive; first | rw [if_pos (by omega)] | (rw [if_neg (by omega)]))
     ·replace h29 := of_decide_eq_false h29
      refine Wp.skipI ?_
      refine goOn ?_
      refine Wp.seqI ?_
      refine Wp.regI I0.mono ?_
      refine GL.fieldAddr I0.mono (o := 3) rfl rfl rfl rfl (by conv => lhs; whnf) ?_
      refine GL.load I0.mono rfl rfl rfl rfl (by simp) rfl rfl ?_
      refine GL.move I0.mono (by conv => lhs; whnf) ?_
      refine GL.indexAddrF I0.mono (sz := 1) rfl rfl rfl rfl (by omega) (by (rw [em_len]; omega)) (by intro e he; obtain ⟨a, -, rfl⟩ := List.mem_map.1 he; rfl) (by rfl) ?_
      refine GL.loadF I0.mono rfl rfl (em_get (by omega)) rfl ?_
      refine GL.move I0.mono (by conv => lhs; whnf) ?_
      refine GL.indexAddrF I0.mono (sz := 1) rfl rfl rfl rfl (by omega) (by (rw [em_len]; omega)) (by intro e he; obtain ⟨a, -, rfl⟩ := List.mem_map.1 he; rfl) (by rfl) ?_
      refine GL.loadF I0.mono rfl rfl (em_get (by omega)) rfl ?_
      refine GL.assign I0.mono (by conv => lhs; whnf) ?_
      refine GL.doneF ?_
      refine goOn ?_
      refine Wp.retI ?_
      refine RetX.ret ?_
      refine ⟨_, _, _, _, .cons (.tmp rfl) .nil, .frz (.pure rfl), List.nodup_nil, by simp, ?_⟩
      exact congrArg (LV.int .i64) (by unfold drive; first | rw [if_pos (by omega)] | (rw [if_neg (by omega)]))

set_option maxRecDepth 100000 in
set_option maxHeartbeats 4000000 in
theorem digit_ok (n : Int) (hn : n ≤ 1000000) : CallsV Try.prog 71 [.int .i64 n] (u32 (digit n)) := by
  refine CallsR.intro (I0.sound _) mix Try.func71 rfl rfl (by simp [Try.f71]) (by kernel_rfl) (nb := 0) ?_
  unfold Try.f71
  refine Wp.seqI ?_
  refine Wp.regI I0.mono ?_
  refine GL.assign I0.mono (by conv => lhs; whnf) ?_
  refine GL.doneF ?_
  refine goOn ?_
  refine Wp.seqI ?_
  refine Wp.seqI ?_
  refine Wp.regI I0.mono ?_
  refine GL.move I0.mono (by conv => lhs; whnf) ?_
  refine GL.bin I0.mono rfl ?_
  refine GL.doneF ?_
  refine goOn ?_
  refine Wp.condI rfl (fun h4 => ?_) (fun h4 => ?_)
  ·replace h4 := of_decide_eq_true h4
   refine Wp.seqI ?_
   refine Wp.regI I0.mono ?_
   refine GL.assign I0.mono (by conv => lhs; whnf) ?_
   refine GL.doneF ?_
   refine goOn ?_
   refine Wp.retI ?_
   refine thenX.ret ?_
   refine RetX.ret ?_
   refine ⟨_, _, _, _, .cons (.tmp rfl) .nil, .frz (.pure rfl), List.nodup_nil, by simp, ?_⟩
   (show LV.int .u32 0 = u32 (digit n); rw [digit, if_pos h4]; rfl)
  ·replace h4 := of_decide_eq_false h4
   refine Wp.skipI ?_
   refine goOn ?_
   refine Wp.seqI ?_
   refine Wp.regI I0.mono ?_
   refine GL.move I0.mono (by conv => lhs; whnf) ?_
   refine GL.conv I0.mono rfl rfl ?_
   refine GL.bin I0.mono (shl_one n (by omega) hn) ?_
   refine GL.assign I0.mono (by conv => lhs; whnf) ?_
   refine GL.doneF ?_
   refine goOn ?_
   refine Wp.retI ?_
   refine RetX.ret ?_
   refine ⟨_, _, _, _, .cons (.tmp rfl) .nil, .frz (.pure rfl), List.nodup_nil, by simp, ?_⟩
   rfl

set_option maxRecDepth 100000 in
set_option maxHeartbeats 4000000 in
theorem begin_ok (i : Inst) (hs : i.Short) (c : Int) : CallsV Try.prog 40 [ei i, .int .i64 c] (.agg (nh (beginT i c))) := by
  refine CallsR.intro (I0.sound _) mix Try.func40 rfl rfl (by simp [Try.f40]) (by kernel_rfl) (nb := 0) ?_
  unfold Try.f40
  refine Wp.seqI ?_
  refine Wp.regI I0.mono ?_
  refine GL.box I0.mono (by conv => lhs; whnf) rfl (n := 4) rfl rfl ?_
  intro g2
  refine GL.alloc I0.mono (cs := [LV.bool false, LV.int .i64 0, LV.int .i64 0, LV.int .i64 0, LV.int .u32 0, LV.int .u32 0, LV.int .i64 0]) rfl rfl ?_
  intro g4
  refine GL.doneF ?_
  refine goOn ?_
  refine Wp.seqI ?_
  refine Wp.seqI ?_
  refine Wp.regI I0.mono ?_
  refine GL.loadW I0.mono (n := 4) rfl rfl rfl rfl (by simp) rfl rfl rfl ?_
  refine GL.move I0.mono (by conv => lhs; whnf) ?_
  refine GL.call0 I0.mono rfl (Frz.aggc (by exact Frz.pures rfl) (Frz.aggc (by exact Frz.pure rfl) (Frz.aggc (by exact Frz.pure rfl) (Frz.aggn)))) (isT_ok i hs _ _) rfl rfl (fun _ => rfl) ?_
  refine GL.un I0.mono rfl ?_
  refine GL.doneF ?_
  refine goOn ?_
  refine Wp.condI rfl (fun h8 => ?_) (fun h8 => ?_)
  ·skip
   refine Wp.seqI ?_
   refine Wp.regI I0.mono ?_
   refine GL.buildS I0.mono (z := [LV.bool false, LV.int .i64 0, LV.int .i64 0, LV.int .i64 0, LV.int .u32 0, LV.int .u32 0, LV.int .i64 0]) (cs := [_, _, _, _, _, _, _]) (n := 7) rfl rfl rfl (EvS.nil) rfl rfl ?_
   refine GL.storeW I0.mono (n := 7) rfl rfl rfl rfl rfl rfl rfl (by conv => lhs; whnf) rfl rfl rfl ?_
   refine GL.doneF ?_
   refine goOn ?_
   refine Wp.retI ?_
   refine thenX.ret ?_
   refine RetX.ret ?_
   refine ⟨_, _, _, _, .cons (.cellA (n := 7) rfl rfl rfl (by simp) rfl rfl rfl (Nat.le_of_ble_eq_true rfl)) .nil, .frz ((Frz.aggc (by exact Frz.pure rfl) (Frz.aggc (by exact Frz.pure rfl) (Frz.aggc (by exact Frz.pure rfl) (Frz.aggc (by exact Frz.pure rfl) (Frz.aggc (by exact Frz.pure rfl) (Frz.aggc (by exact Frz.pure rfl) (Frz.aggc (by exact Frz.pure rfl) Frz.aggn)))))))), List.nodup_nil, by simp, ?_⟩
   (rw [beginT, if_neg (by rw [nbf h8]; decide)]; rfl)
  ·skip
   have hq := isT_iff.1 (nbt h8)
   have hc := hs.cars
   unfold Short at hc
   refine Wp.skipI ?_
   refine goOn ?_
   refine Wp.seqI ?_
   refine Wp.regI I0.mono ?_
   refine GL.fieldAddr I0.mono (o := 0) rfl rfl rfl rfl (by conv => lhs; whnf) ?_
   refine GL.load I0.mono rfl rfl rfl rfl (by simp) rfl rfl ?_
   refine GL.move I0.mono (by conv => lhs; whnf) ?_
   refine GL.indexAddrF I0.mono (sz := 3) rfl rfl rfl rfl (by omega) (by (rw [em_len]; omega)) (by intro e he; obtain ⟨a, -, rfl⟩ := List.mem_map.1 he; rfl) (by rfl) ?_
   refine GL.fieldAddrF I0.mono (o := 1) rfl rfl (by conv => lhs; whnf) ?_
   refine GL.loadF I0.mono rfl rfl (em_get (by omega)) rfl ?_
   refine GL.buildS I0.mono (z := [LV.bool false, LV.int .i64 0, LV.int .i64 0, LV.int .i64 0, LV.int .u32 0, LV.int .u32 0, LV.int .i64 0]) (cs := [_, _, _, _, _, _, _]) (n := 7) rfl rfl rfl (EvS.cons (by conv => lhs; whnf) (EvS.cons (by conv => lhs; whnf) (EvS.nil))) rfl rfl ?_
   refine GL.storeW I0.mono (n := 7) rfl rfl rfl rfl rfl rfl rfl (by conv => lhs; whnf) rfl rfl rfl ?_
   refine GL.doneF ?_
   refine goOn ?_
   refine Wp.retI ?_
   refine RetX.ret ?_
   refine ⟨_, _, _, _, .cons (.cellA (n := 7) rfl rfl rfl (by simp) rfl rfl rfl (Nat.le_of_ble_eq_true rfl)) .nil, .frz ((Frz.aggc (by exact Frz.pure rfl) (Frz.aggc (by exact Frz.pure rfl) (Frz.aggc (by exact Frz.pure rfl) (Frz.aggc (by exact Frz.pure rfl) (Frz.aggc (by exact Frz.pure rfl) (Frz.aggc (by exact Frz.pure rfl) (Frz.aggc (by exact Frz.pure rfl) Frz.aggn)))))))), List.nodup_nil, by simp, ?_⟩
   (rw [beginT, if_pos (nbt h8)]; rfl)

set_option maxRecDepth 100000 in
set_option maxHeartbeats 4000000 in
theorem end_ok (i : Inst) (hs : i.Short) (c : Int) : CallsV Try.prog 41 [ei i, .int .i64 c] (.agg (nl (endT i c))) := by
  refine CallsR.intro (I0.sound _) mix Try.func41 rfl rfl (by simp [Try.f41]) (by kernel_rfl) (nb := 0) ?_
  unfold Try.f41
  refine Wp.seqI ?_
  refine Wp.regI I0.mono ?_
  refine GL.box I0.mono (by conv => lhs; whnf) rfl (n := 4) rfl rfl ?_
  intro g2
  refine GL.alloc I0.mono (cs := [LV.bool false, LV.int .i64 0, LV.int .i64 0, LV.int .i64 0, LV.int .i64 0, LV.int .u32 0, LV.int .u32 0, LV.int .i64 0]) rfl rfl ?_
  intro g4
  refine GL.doneF ?_
  refine goOn ?_
  refine Wp.seqI ?_
  refine Wp.seqI ?_
  refine Wp.regI I0.mono ?_
  refine GL.loadW I0.mono (n := 4) rfl rfl rfl rfl (by simp) rfl rfl rfl ?_
  refine GL.move I0.mono (by conv => lhs; whnf) ?_
  refine GL.call0 I0.mono rfl (Frz.aggc (by exact Frz.pures rfl) (Frz.aggc (by exact Frz.pure rfl) (Frz.aggc (by exact Frz.pure rfl) (Frz.aggn)))) (isT_ok i hs _ _) rfl rfl (fun _ => rfl) ?_
  refine GL.un I0.mono rfl ?_
  refine GL.doneF ?_
  refine goOn ?_
  refine Wp.condI rfl (fun h8 => ?_) (fun h8 => ?_)
  ·skip
   refine Wp.seqI ?_
   refine Wp.regI I0.mono ?_
   refine GL.buildS I0.mono (z := [LV.bool false, LV.int .i64 0, LV.int .i64 0, LV.int .i64 0, LV.int .i64 0, LV.int .u32 0, LV.int .u32 0, LV.int .i64 0]) (cs := [_, _, _, _, _, _, _, _]) (n := 8) rfl rfl rfl (EvS.nil) rfl rfl ?_
   refine GL.storeW I0.mono (n := 8) rfl rfl rfl rfl rfl rfl rfl (by conv => lhs; whnf) rfl rfl rfl ?_
   refine GL.doneF ?_
   refine goOn ?_
   refine Wp.retI ?_
   refine thenX.ret ?_
   refine RetX.ret ?_
   refine ⟨_, _, _, _, .cons (.cellA (n := 8) rfl rfl rfl (by simp) rfl rfl rfl (Nat.le_of_ble_eq_true rfl)) .nil, .frz ((Frz.aggc (by exact Frz.pure rfl) (Frz.aggc (by exact Frz.pure rfl) (Frz.aggc (by exact Frz.pure rfl) (Frz.aggc (by exact Frz.pure rfl) (Frz.aggc (by exact Frz.pure rfl) (Frz.aggc (by exact Frz.pure rfl) (Frz.aggc (by exact Frz.pure rfl) (Frz.aggc (by exact Frz.pure rfl) Frz.aggn))))))))), List.nodup_nil, by simp, ?_⟩
   (rw [endT, if_neg (by rw [nbf h8]; decide)]; rfl)
  ·skip
   have hq := isT_iff.1 (nbt h8)
   have hc := hs.cars
   unfold Short at hc
   refine Wp.skipI ?_
   refine goOn ?_
   refine Wp.seqI ?_
   refine Wp.regI I0.mono ?_
   refine GL.fieldAddr I0.mono (o := 0) rfl rfl rfl rfl (by conv => lhs; whnf) ?_
   refine GL.load I0.mono rfl rfl rfl rfl (by simp) rfl rfl ?_
   refine GL.move I0.mono (by conv => lhs; whnf) ?_
   refine GL.indexAddrF I0.mono (sz := 3) rfl rfl rfl rfl (by omega) (by (rw [em_len]; omega)) (by intro e he; obtain ⟨a, -, rfl⟩ := List.mem_map.1 he; rfl) (by rfl) ?_
   refine GL.fieldAddrF I0.mono (o := 2) rfl rfl (by conv => lhs; whnf) ?_
   refine GL.loadF I0.mono rfl rfl (em_get (by omega)) rfl ?_
   refine GL.buildS I0.mono (z := [LV.bool false, LV.int .i64 0, LV.int .i64 0, LV.int .i64 0, LV.int .i64 0, LV.int .u32 0, LV.int .u32 0, LV.int .i64 0]) (cs := [_, _, _, _, _, _, _, _]) (n := 8) rfl rfl rfl (EvS.cons (by conv => lhs; whnf) (EvS.cons (by conv => lhs; whnf) (EvS.nil))) rfl rfl ?_
   refine GL.storeW I0.mono (n := 8) rfl rfl rfl rfl rfl rfl rfl (by conv => lhs; whnf) rfl rfl rfl ?_
   refine GL.doneF ?_
   refine goOn ?_
   refine Wp.retI ?_
   refine RetX.ret ?_
   refine ⟨_, _, _, _, .cons (.cellA (n := 8) rfl rfl rfl (by simp) rfl rfl rfl (Nat.le_of_ble_eq_true rfl)) .nil, .frz ((Frz.aggc (by exact Frz.pure rfl) (Frz.aggc (by exact Frz.pure rfl) (Frz.aggc (by exact Frz.pure rfl) (Frz.aggc (by exact Frz.pure rfl) (Frz.aggc (by exact Frz.pure rfl) (Frz.aggc (by exact Frz.pure rfl) (Frz.aggc (by exact Frz.pure rfl) (Frz.aggc (by exact Frz.pure rfl) Frz.aggn))))))))), List.nodup_nil, by simp, ?_⟩
   (rw [endT, if_pos (nbt h8)]; rfl)

set_option maxRecDepth 100000 in
set_option maxHeartbeats 4000000 in
theorem extend_ok (i : Inst) (ht : Tb i) (c : Int) (h : Head) (s : Int) : CallsV Try.prog 42 [ei i, .int .i64 c, .agg (nh h), .int .i64 s] (.agg (nh (extend i c h s))) := by
  refine CallsR.intro (I0.sound _) mix Try.func42 rfl rfl (by simp [Try.f42]) (by kernel_rfl) (nb := 0) ?_
  unfold Try.f42
  refine Wp.seqI ?_
  refine Wp.regI I0.mono ?_
  refine GL.box I0.mono (by conv => lhs; whnf) rfl (n := 4) rfl rfl ?_
  intro g4
  refine GL.box I0.mono (by conv => lhs; whnf) rfl (n := 7) rfl rfl ?_
  intro g6
  refine GL.alloc I0.mono (cs := [LV.bool false, LV.int .i64 0, LV.int .i64 0, LV.int .i64 0, LV.int .u32 0, LV.int .u32 0, LV.int .i64 0]) rfl rfl ?_
  intro g8
  refine GL.doneF ?_
  refine goOn ?_
  refine Wp.seqI ?_
  refine Wp.seqI ?_
  have hq := ht.stops
  have hc := ht.short.cars
  unfold Short at hc
  refine Wp.regD ?_
  refine GL.fieldAddr I0.mono (o := 0) rfl rfl rfl rfl (by conv => lhs; whnf) ?_
  refine GL.load I0.mono rfl rfl rfl rfl (by simp) rfl rfl ?_
  refine GL.un I0.mono rfl ?_
  refine GL.move I0.mono (by conv => lhs; whnf) ?_
  refine GL.splitAt 17 rfl (fun h17 => ?_) (fun h17 => ?_)
  ·rw [h17]
   skip
   refine GL.guardF rfl ?_
   refine GL.guardF rfl ?_
   refine GL.guardF rfl ?_
   refine GL.guardF rfl ?_
   refine GL.guardF rfl ?_
   refine GL.pick I0.mono rfl (by conv => lhs; whnf) ?_
   refine GL.move I0.mono (by conv => lhs; whnf) ?_
   refine GL.guardF rfl ?_
   refine GL.guardF rfl ?_
   refine GL.pick I0.mono rfl (by conv => lhs; whnf) ?_
   refine GL.move I0.mono (by conv => lhs; whnf) ?_
   refine GL.guardF rfl ?_
   refine GL.guardF rfl ?_
   refine GL.guardF rfl ?_
   refine GL.guardF rfl ?_
   refine GL.guardF rfl ?_
   refine GL.guardF rfl ?_
   refine GL.pick I0.mono rfl (by conv => lhs; whnf) ?_
   refine GL.doneT (by kernel_rfl) ?_
   refine goOn ?_
   refine Wp.condT rfl ?_
   refine Wp.seqI ?_
   refine Wp.regI I0.mono ?_
   refine GL.buildS I0.mono (z := [LV.bool false, LV.int .i64 0, LV.int .i64 0, LV.int .i64 0, LV.int .u32 0, LV.int .u32 0, LV.int .i64 0]) (cs := [_, _, _, _, _, _, _]) (n := 7) rfl rfl rfl (EvS.nil) rfl rfl ?_
   refine GL.storeW I0.mono (n := 7) rfl rfl rfl rfl rfl rfl rfl (by conv => lhs; whnf) rfl rfl rfl ?_
   refine GL.doneF ?_
   refine goOn ?_
   refine Wp.retI ?_
   refine thenX.ret ?_
   refine RetX.ret ?_
   refine ⟨_, _, _, _, .cons (.cellA (n := 7) rfl rfl rfl (by simp) rfl rfl rfl (Nat.le_of_ble_eq_true rfl)) .nil, .frz ((Frz.aggc (by exact Frz.pure rfl) (Frz.aggc (by exact Frz.pure rfl) (Frz.aggc (by exact Frz.pure rfl) (Frz.aggc (by exact Frz.pure rfl) (Frz.aggc (by exact Frz.pure rfl) (Frz.aggc (by exact Frz.pure rfl) (Frz.aggc (by exact Frz.pure rfl) Frz.aggn)))))))), List.nodup_nil, by simp, ?_⟩
   first
   | (rw [extend, if_neg (by rintro ⟨a1, a2, a3, a4⟩; first | (rw [a1] at h17; cases h17; done) | (rw [a2] at h24; cases h24; done) | omega | exact h35 a4)]; rfl)
   | (rw [extend, if_pos hH1, if_neg (by rintro ⟨b1, b2, b3⟩; first | exact absurd b1 (Int.not_le.2 h81) | exact absurd b2 (Int.not_le.2 h86) | exact absurd b3 (Int.not_le.2 h96))]; rfl)
   | (rw [extend, if_pos hH1, if_pos hH2, if_pos h102]; rfl)
   | (rw [extend, if_pos hH1, if_pos hH2, if_neg h102, if_pos h106]; rfl)
   | (rw [extend, if_pos hH1, if_pos hH2, if_neg h102, if_neg (by rw [h106]; decide), if_pos h117]; rfl)
   | (rw [extend, if_pos hH1, if_pos hH2, if_neg h102, if_neg (by rw [h106]; decide), if_neg h117]; rfl)
  ·rw [h17]
   skip
   refine GL.guardT rfl ?_
   refine GL.loadW I0.mono (n := 4) rfl rfl rfl rfl (by simp) rfl rfl rfl ?_
   refine GL.guardT rfl ?_
   refine GL.move I0.mono (by conv => lhs; whnf) ?_
   refine GL.guardT rfl ?_
   refine GL.move I0.mono (by conv => lhs; whnf) ?_
   refine GL.guardT rfl ?_
   refine GL.call0 I0.mono rfl (Frz.aggc (by exact Frz.pures rfl) (Frz.aggc (by exact Frz.pure rfl) (Frz.aggc (by exact Frz.pure rfl) (Frz.aggn)))) (isT_ok i ht.short _ _) rfl rfl (fun _ => rfl) ?_
   refine GL.guardT rfl ?_
   refine GL.un I0.mono rfl ?_
   refine GL.pick I0.mono rfl (by conv => lhs; whnf) ?_
   refine GL.move I0.mono (by conv => lhs; whnf) ?_
   refine GL.splitAt 24 rfl (fun h24 => ?_) (fun h24 => ?_)
   ·rw [h24]
    skip
    refine GL.guardF rfl ?_
    refine GL.guardF rfl ?_
    refine GL.pick I0.mono rfl (by conv => lhs; whnf) ?_
    refine GL.move I0.mono (by conv => lhs; whnf) ?_
    refine GL.guardF rfl ?_
    refine GL.guardF rfl ?_
    refine GL.guardF rfl ?_
    refine GL.guardF rfl ?_
    refine GL.guardF rfl ?_
    refine GL.guardF rfl ?_
    refine GL.pick I0.mono rfl (by conv => lhs; whnf) ?_
    refine GL.doneT (by kernel_rfl) ?_
    refine goOn ?_
    refine Wp.condT rfl ?_
    refine Wp.seqI ?_
    refine Wp.regI I0.mono ?_
    refine GL.buildS I0.mono (z := [LV.bool false, LV.int .i64 0, LV.int .i64 0, LV.int .i64 0, LV.int .u32 0, LV.int .u32 0, LV.int .i64 0]) (cs := [_, _, _, _, _, _, _]) (n := 7) rfl rfl rfl (EvS.nil) rfl rfl ?_
    refine GL.storeW I0.mono (n := 7) rfl rfl rfl rfl rfl rfl rfl (by conv => lhs; whnf) rfl rfl rfl ?_
    refine GL.doneF ?_
    refine goOn ?_
    refine Wp.retI ?_
    refine thenX.ret ?_
    refine RetX.ret ?_
    refine ⟨_, _, _, _, .cons (.cellA (n := 7) rfl rfl rfl (by simp) rfl rfl rfl (Nat.le_of_ble_eq_true rfl)) .nil, .frz ((Frz.aggc (by exact Frz.pure rfl) (Frz.aggc (by exact Frz.pure rfl) (Frz.aggc (by exact Frz.pure rfl) (Frz.aggc (by exact Frz.pure rfl) (Frz.aggc (by exact Frz.pure rfl) (Frz.aggc (by exact Frz.pure rfl) (Frz.aggc (by exact Frz.pure rfl) Frz.aggn)))))))), List.nodup_nil, by simp, ?_⟩
    first
    | (rw [extend, if_neg (by rintro ⟨a1, a2, a3, a4⟩; first | (rw [a1] at h17; cases h17; done) | (rw [a2] at h24; cases h24; done) | omega | exact h35 a4)]; rfl)
    | (rw [extend, if_pos hH1, if_neg (by rintro ⟨b1, b2, b3⟩; first | exact absurd b1 (Int.not_le.2 h81) | exact absurd b2 (Int.not_le.2 h86) | exact absurd b3 (Int.not_le.2 h96))]; rfl)
    | (rw [extend, if_pos hH1, if_pos hH2, if_pos h102]; rfl)
    | (rw [extend, if_pos hH1, if_pos hH2, if_neg h102, if_pos h106]; rfl)
    | (rw [extend, if_pos hH1, if_pos hH2, if_neg h102, if_neg (by rw [h106]; decide), if_pos h117]; rfl)
    | (rw [extend, if_pos hH1, if_pos hH2, if_neg h102, if_neg (by rw [h106]; decide), if_neg h117]; rfl)
   ·rw [h24]
    skip
    refine GL.guardT rfl ?_
    refine GL.move I0.mono (by conv => lhs; whnf) ?_
    refine GL.guardT rfl ?_
    refine GL.bin I0.mono rfl ?_
    refine GL.pick I0.mono rfl (by conv => lhs; whnf) ?_
    refine GL.move I0.mono (by conv => lhs; whnf) ?_
    refine GL.splitAt 28 rfl (fun h28 => ?_) (fun h28 => ?_)
    ·rw [h28]
     replace h28 := of_decide_eq_true h28
     refine GL.guardF rfl ?_
     refine GL.guardF rfl ?_
     refine GL.guardF rfl ?_
     refine GL.guardF rfl ?_
     refine GL.guardF rfl ?_
     refine GL.guardF rfl ?_
     refine GL.pick I0.mono rfl (by conv => lhs; whnf) ?_
     refine GL.doneT (by kernel_rfl) ?_
     refine goOn ?_
     refine Wp.condT rfl ?_
     refine Wp.seqI ?_
     refine Wp.regI I0.mono ?_
     refine GL.buildS I0.mono (z := [LV.bool false, LV.int .i64 0, LV.int .i64 0, LV.int .i64 0, LV.int .u32 0, LV.int .u32 0, LV.int .i64 0]) (cs := [_, _, _, _, _, _, _]) (n := 7) rfl rfl rfl (EvS.nil) rfl rfl ?_
     refine GL.storeW I0.mono (n := 7) rfl rfl rfl rfl rfl rfl rfl (by conv => lhs; whnf) rfl rfl rfl ?_
     refine GL.doneF ?_
     refine goOn ?_
     refine Wp.retI ?_
     refine thenX.ret ?_
     refine RetX.ret ?_
     refine ⟨_, _, _, _, .cons (.cellA (n := 7) rfl rfl rfl (by simp) rfl rfl rfl (Nat.le_of_ble_eq_true rfl)) .nil, .frz ((Frz.aggc (by exact Frz.pure rfl) (Frz.aggc (by exact Frz.pure rfl) (Frz.aggc (by exact Frz.pure rfl) (Frz.aggc (by exact Frz.pure rfl) (Frz.aggc (by exact Frz.pure rfl) (Frz.aggc (by exact Frz.pure rfl) (Frz.aggc (by exact Frz.pure rfl) Frz.aggn)))))))), List.nodup_nil, by simp, ?_⟩
     first
     | (rw [extend, if_neg (by rintro ⟨a1, a2, a3, a4⟩; first | (rw [a1] at h17; cases h17; done) | (rw [a2] at h24; cases h24; done) | omega | exact h35 a4)]; rfl)
     | (rw [extend, if_pos hH1, if_neg (by rintro ⟨b1, b2, b3⟩; first | exact absurd b1 (Int.not_le.2 h81) | exact absurd b2 (Int.not_le.2 h86) | exact absurd b3 (Int.not_le.2 h96))]; rfl)
     | (rw [extend, if_pos hH1, if_pos hH2, if_pos h102]; rfl)
     | (rw [extend, if_pos hH1, if_pos hH2, if_neg h102, if_pos h106]; rfl)
     | (rw [extend, if_pos hH1, if_pos hH2, if_neg h102, if_neg (by rw [h106]; decide), if_pos h117]; rfl)
     | (rw [extend, if_pos hH1, if_pos hH2, if_neg h102, if_neg (by rw [h106]; decide), if_neg h117]; rfl)
    ·rw [h28]
     replace h28 := of_decide_eq_false h28
     refine GL.guardT rfl ?_
     refine GL.fieldAddr I0.mono (o := 5) rfl rfl rfl rfl (by conv => lhs; whnf) ?_
     refine GL.guardT rfl ?_
     refine GL.load I0.mono rfl rfl rfl rfl (by simp) rfl rfl ?_
     refine GL.guardT rfl ?_
     refine GL.move I0.mono (by conv => lhs; whnf) ?_
     refine GL.guardT rfl ?_
     refine GL.call0 I0.mono rfl (Frz.aggc (by exact Frz.pure rfl) (Frz.aggn)) (digit_ok _ (by have := isT_iff.1 (nbt h24); have := ht.stops; omega)) rfl rfl (fun _ => rfl) ?_
     refine GL.guardT rfl ?_
     refine GL.andB I0.mono rfl rfl ?_
     refine GL.guardT rfl ?_
     refine GL.neqB I0.mono (b := 0#32) rfl rfl ?_
     refine GL.pick I0.mono rfl (by conv => lhs; whnf) ?_
     refine GL.doneT (by kernel_rfl) ?_
     refine goOn ?_
     refine Wp.condI rfl (fun h35 => ?_) (fun h35 => ?_)
     ·replace h35 := of_decide_eq_true h35
      refine Wp.seqI ?_
      refine Wp.regI I0.mono ?_
      refine GL.buildS I0.mono (z := [LV.bool false, LV.int .i64 0, LV.int .i64 0, LV.int .i64 0, LV.int .u32 0, LV.int .u32 0, LV.int .i64 0]) (cs := [_, _, _, _, _, _, _]) (n := 7) rfl rfl rfl (EvS.nil) rfl rfl ?_
      refine GL.storeW I0.mono (n := 7) rfl rfl rfl rfl rfl rfl rfl (by conv => lhs; whnf) rfl rfl rfl ?_
      refine GL.doneF ?_
      refine goOn ?_
      refine Wp.retI ?_
      refine thenX.ret ?_
      refine RetX.ret ?_
      refine ⟨_, _, _, _, .cons (.cellA (n := 7) rfl rfl rfl (by simp) rfl rfl rfl (Nat.le_of_ble_eq_true rfl)) .nil, .frz ((Frz.aggc (by exact Frz.pure rfl) (Frz.aggc (by exact Frz.pure rfl) (Frz.aggc (by exact Frz.pure rfl) (Frz.aggc (by exact Frz.pure rfl) (Frz.aggc (by exact Frz.pure rfl) (Frz.aggc (by exact Frz.pure rfl) (Frz.aggc (by exact Frz.pure rfl) Frz.aggn)))))))), List.nodup_nil, by simp, ?_⟩
      first
      | (rw [extend, if_neg (by rintro ⟨a1, a2, a3, a4⟩; first | (rw [a1] at h17; cases h17; done) | (rw [a2] at h24; cases h24; done) | omega | exact h35 a4)]; rfl)
      | (rw [extend, if_pos hH1, if_neg (by rintro ⟨b1, b2, b3⟩; first | exact absurd b1 (Int.not_le.2 h81) | exact absurd b2 (Int.not_le.2 h86) | exact absurd b3 (Int.not_le.2 h96))]; rfl)
      | (rw [extend, if_pos hH1, if_pos hH2, if_pos h102]; rfl)
      | (rw [extend, if_pos hH1, if_pos hH2, if_neg h102, if_pos h106]; rfl)
      | (rw [extend, if_pos hH1, if_pos hH2, if_neg h102, if_neg (by rw [h106]; decide), if_pos h117]; rfl)
      | (rw [extend, if_pos hH1, if_pos hH2, if_neg h102, if_neg (by rw [h106]; decide), if_neg h117]; rfl)
     ·replace h35 := of_decide_eq_false h35
      have hT := isT_iff.1 (nbt h24)
      have hH1 : h.ok = true ∧ isT i c s = true ∧ 1 ≤ s ∧ h.set &&& digit s = 0#32 := ⟨nbt h17, nbt h24, by omega, Decidable.not_not.1 h35⟩
      refine Wp.skipI ?_
      refine goOn ?_
      refine Wp.seqI ?_
      refine Wp.regI I0.mono ?_
      refine GL.fieldAddr I0.mono (o := 1) rfl rfl rfl rfl (by conv => lhs; whnf) ?_
      refine GL.load I0.mono rfl rfl rfl rfl (by simp) rfl rfl ?_
      refine GL.move I0.mono (by conv => lhs; whnf) ?_
      refine GL.subR I0.mono rfl rfl (by omega) ?_
      refine GL.indexAddrF I0.mono (sz := 4) rfl rfl rfl rfl (by omega) (by (rw [em_len]; omega)) (by intro e he; obtain ⟨a, -, rfl⟩ := List.mem_map.1 he; rfl) (by rfl) ?_
      refine GL.loadFW I0.mono (n := 4) rfl rfl (em_get (by omega)) rfl rfl ?_
      refine GL.alloc I0.mono (cs := [LV.int .i64 0, LV.int .i64 0, LV.int .i64 0, LV.int .i64 0]) rfl rfl ?_
      intro g9
      refine GL.storeW I0.mono (n := 4) rfl rfl rfl rfl rfl rfl rfl (by conv => lhs; whnf) rfl rfl rfl ?_
      refine GL.doneF ?_
      refine goOn ?_
      refine Wp.seqI ?_
      refine Wp.regI I0.mono ?_
      refine GL.loadW I0.mono (n := 4) rfl rfl rfl rfl (by simp) rfl rfl rfl ?_
      refine GL.fieldAddr I0.mono (o := 1) rfl rfl rfl rfl (by conv => lhs; whnf) ?_
      refine GL.load I0.mono rfl rfl rfl rfl (by simp) rfl rfl ?_
      refine GL.move I0.mono (by conv => lhs; whnf) ?_
      refine GL.call0 I0.mono rfl (Frz.aggc (by exact Frz.pures rfl) (Frz.aggc (by exact Frz.pure rfl) (Frz.aggc (by exact Frz.pure rfl) (Frz.aggn)))) (drive_ok i ht.short _ _) rfl rfl (fun _ => rfl) ?_
      refine GL.assign I0.mono (by conv => lhs; whnf) ?_
      refine GL.doneF ?_
      refine goOn ?_
      refine Wp.seqI ?_
      refine Wp.regI I0.mono ?_
      refine GL.fieldAddr I0.mono (o := 1) rfl rfl rfl rfl (by conv => lhs; whnf) ?_
      refine GL.load I0.mono rfl rfl rfl rfl (by simp) rfl rfl ?_
      refine GL.fieldAddr I0.mono (o := 2) rfl rfl rfl rfl (by conv => lhs; whnf) ?_
      refine GL.load I0.mono rfl rfl rfl rfl (by simp) rfl rfl ?_
      refine GL.move I0.mono (by conv => lhs; whnf) ?_
      refine GL.bin I0.mono rfl ?_
      refine GL.max I0.mono rfl ?_
      refine GL.assign I0.mono (by conv => lhs; whnf) ?_
      refine GL.doneF ?_
      refine goOn ?_
      refine Wp.seqI ?_
      refine Wp.regD ?_
      refine GL.move I0.mono (by conv => lhs; whnf) ?_
      refine GL.move I0.mono (by conv => lhs; whnf) ?_
      refine GL.fieldAddr I0.mono (o := 3) rfl rfl rfl rfl (by conv => lhs; whnf) ?_
      refine GL.load I0.mono rfl rfl rfl rfl (by simp) rfl rfl ?_
      refine GL.bin I0.mono rfl ?_
      refine GL.fieldAddr I0.mono (o := 3) rfl rfl rfl rfl (by conv => lhs; whnf) ?_
      refine GL.load I0.mono rfl rfl rfl rfl (by simp) rfl rfl ?_
      refine GL.fieldAddr I0.mono (o := 0) rfl rfl rfl rfl (by conv => lhs; whnf) ?_
      refine GL.load I0.mono rfl rfl rfl rfl (by simp) rfl rfl ?_
      refine GL.bin I0.mono rfl ?_
      refine GL.fieldAddr I0.mono (o := 4) rfl rfl rfl rfl (by conv => lhs; whnf) ?_
      refine GL.load I0.mono rfl rfl rfl rfl (by simp) rfl rfl ?_
      refine GL.fieldAddr I0.mono (o := 5) rfl rfl rfl rfl (by conv => lhs; whnf) ?_
      refine GL.load I0.mono rfl rfl rfl rfl (by simp) rfl rfl ?_
      refine GL.move I0.mono (by conv => lhs; whnf) ?_
      refine GL.call0 I0.mono rfl (Frz.aggc (by exact Frz.pure rfl) (Frz.aggn)) (digit_ok _ (by omega)) rfl rfl (fun _ => rfl) ?_
      refine GL.orB I0.mono rfl rfl ?_
      refine GL.fieldAddr I0.mono (o := 6) rfl rfl rfl rfl (by conv => lhs; whnf) ?_
      refine GL.load I0.mono rfl rfl rfl rfl (by simp) rfl rfl ?_
      refine GL.move I0.mono (by conv => lhs; whnf) ?_
      refine GL.bin I0.mono rfl ?_
      refine GL.buildS I0.mono (z := [LV.bool false, LV.int .i64 0, LV.int .i64 0, LV.int .i64 0, LV.int .u32 0, LV.int .u32 0, LV.int .i64 0]) (cs := [_, _, _, _, _, _, _]) (n := 7) rfl rfl rfl (EvS.cons (by conv => lhs; whnf) (EvS.cons (by conv => lhs; whnf) (EvS.cons (by conv => lhs; whnf) (EvS.cons (by conv => lhs; whnf) (EvS.cons (by conv => lhs; whnf) (EvS.cons (by conv => lhs; whnf) (EvS.cons (by conv => lhs; whnf) (EvS.nil)))))))) rfl rfl ?_
      refine GL.alloc I0.mono (cs := [LV.bool false, LV.int .i64 0, LV.int .i64 0, LV.int .i64 0, LV.int .u32 0, LV.int .u32 0, LV.int .i64 0]) rfl rfl ?_
      intro g12
      refine GL.storeW I0.mono (n := 7) rfl rfl rfl rfl rfl rfl rfl (by conv => lhs; whnf) rfl rfl rfl ?_
      refine GL.doneT (by kernel_rfl) ?_
      refine goOn ?_
      refine Wp.seqI ?_
      refine Wp.seqI ?_
      refine Wp.regD ?_
      refine GL.move I0.mono (by conv => lhs; whnf) ?_
      refine GL.fieldAddr I0.mono (o := 2) rfl rfl rfl rfl (by conv => lhs; whnf) ?_
      refine GL.load I0.mono rfl rfl rfl rfl (by simp) rfl rfl ?_
      refine GL.bin I0.mono rfl ?_
      refine GL.move I0.mono (by conv => lhs; whnf) ?_
      refine GL.splitAt 81 rfl (fun h81 => ?_) (fun h81 => ?_)
      ·rw [h81]
       replace h81 := of_decide_eq_true h81
       refine GL.guardF rfl ?_
       refine GL.guardF rfl ?_
       refine GL.guardF rfl ?_
       refine GL.pick I0.mono rfl (by conv => lhs; whnf) ?_
       refine GL.move I0.mono (by conv => lhs; whnf) ?_
       refine GL.guardF rfl ?_
       refine GL.guardF rfl ?_
       refine GL.guardF rfl ?_
       refine GL.guardF rfl ?_
       refine GL.guardF rfl ?_
       refine GL.guardF rfl ?_
       refine GL.guardF rfl ?_
       refine GL.guardF rfl ?_
       refine GL.guardF rfl ?_
       refine GL.pick I0.mono rfl (by conv => lhs; whnf) ?_
       refine GL.doneT (by kernel_rfl) ?_
       refine goOn ?_
       refine Wp.condT rfl ?_
       refine Wp.seqI ?_
       refine Wp.regI I0.mono ?_
       refine GL.buildS I0.mono (z := [LV.bool false, LV.int .i64 0, LV.int .i64 0, LV.int .i64 0, LV.int .u32 0, LV.int .u32 0, LV.int .i64 0]) (cs := [_, _, _, _, _, _, _]) (n := 7) rfl rfl rfl (EvS.nil) rfl rfl ?_
       refine GL.storeW I0.mono (n := 7) rfl rfl rfl rfl rfl rfl rfl (by conv => lhs; whnf) rfl rfl rfl ?_
       refine GL.doneF ?_
       refine goOn ?_
       refine Wp.retI ?_
       refine thenX.ret ?_
       refine RetX.ret ?_
       refine ⟨_, _, _, _, .cons (.cellA (n := 7) rfl rfl rfl (by simp) rfl rfl rfl (Nat.le_of_ble_eq_true rfl)) .nil, .frz ((Frz.aggc (by exact Frz.pure rfl) (Frz.aggc (by exact Frz.pure rfl) (Frz.aggc (by exact Frz.pure rfl) (Frz.aggc (by exact Frz.pure rfl) (Frz.aggc (by exact Frz.pure rfl) (Frz.aggc (by exact Frz.pure rfl) (Frz.aggc (by exact Frz.pure rfl) Frz.aggn)))))))), List.nodup_nil, by simp, ?_⟩
       first
       | (rw [extend, if_neg (by rintro ⟨a1, a2, a3, a4⟩; first | (rw [a1] at h17; cases h17; done) | (rw [a2] at h24; cases h24; done) | omega | exact h35 a4)]; rfl)
       | (rw [extend, if_pos hH1, if_neg (by rintro ⟨b1, b2, b3⟩; first | exact absurd b1 (Int.not_le.2 h81) | exact absurd b2 (Int.not_le.2 h86) | exact absurd b3 (Int.not_le.2 h96))]; rfl)
       | (rw [extend, if_pos hH1, if_pos hH2, if_pos h102]; rfl)
       | (rw [extend, if_pos hH1, if_pos hH2, if_neg h102, if_pos h106]; rfl)
       | (rw [extend, if_pos hH1, if_pos hH2, if_neg h102, if_neg (by rw [h106]; decide), if_pos h117]; rfl)
       | (rw [extend, if_pos hH1, if_pos hH2, if_neg h102, if_neg (by rw [h106]; decide), if_neg h117]; rfl)
      ·rw [h81]
       replace h81 := of_decide_eq_false h81
       refine GL.guardT rfl ?_
       refine GL.fieldAddr I0.mono (o := 3) rfl rfl rfl rfl (by conv => lhs; whnf) ?_
       refine GL.guardT rfl ?_
       refine GL.load I0.mono rfl rfl rfl rfl (by simp) rfl rfl ?_
       refine GL.guardT rfl ?_
       refine GL.bin I0.mono rfl ?_
       refine GL.pick I0.mono rfl (by conv => lhs; whnf) ?_
       refine GL.move I0.mono (by conv => lhs; whnf) ?_
       refine GL.splitAt 86 rfl (fun h86 => ?_) (fun h86 => ?_)
       ·rw [h86]
        replace h86 := of_decide_eq_true h86
        refine GL.guardF rfl ?_
        refine GL.guardF rfl ?_
        refine GL.guardF rfl ?_
        refine GL.guardF rfl ?_
        refine GL.guardF rfl ?_
        refine GL.guardF rfl ?_
        refine GL.guardF rfl ?_
        refine GL.guardF rfl ?_
        refine GL.guardF rfl ?_
        refine GL.pick I0.mono rfl (by conv => lhs; whnf) ?_
        refine GL.doneT (by kernel_rfl) ?_
        refine goOn ?_
        refine Wp.condT rfl ?_
        refine Wp.seqI ?_
        refine Wp.regI I0.mono ?_
        refine GL.buildS I0.mono (z := [LV.bool false, LV.int .i64 0, LV.int .i64 0, LV.int .i64 0, LV.int .u32 0, LV.int .u32 0, LV.int .i64 0]) (cs := [_, _, _, _, _, _, _]) (n := 7) rfl rfl rfl (EvS.nil) rfl rfl ?_
        refine GL.storeW I0.mono (n := 7) rfl rfl rfl rfl rfl rfl rfl (by conv => lhs; whnf) rfl rfl rfl ?_
        refine GL.doneF ?_
        refine goOn ?_
        refine Wp.retI ?_
        refine thenX.ret ?_
        refine RetX.ret ?_
        refine ⟨_, _, _, _, .cons (.cellA (n := 7) rfl rfl rfl (by simp) rfl rfl rfl (Nat.le_of_ble_eq_true rfl)) .nil, .frz ((Frz.aggc (by exact Frz.pure rfl) (Frz.aggc (by exact Frz.pure rfl) (Frz.aggc (by exact Frz.pure rfl) (Frz.aggc (by exact Frz.pure rfl) (Frz.aggc (by exact Frz.pure rfl) (Frz.aggc (by exact Frz.pure rfl) (Frz.aggc (by exact Frz.pure rfl) Frz.aggn)))))))), List.nodup_nil, by simp, ?_⟩
        first
        | (rw [extend, if_neg (by rintro ⟨a1, a2, a3, a4⟩; first | (rw [a1] at h17; cases h17; done) | (rw [a2] at h24; cases h24; done) | omega | exact h35 a4)]; rfl)
        | (rw [extend, if_pos hH1, if_neg (by rintro ⟨b1, b2, b3⟩; first | exact absurd b1 (Int.not_le.2 h81) | exact absurd b2 (Int.not_le.2 h86) | exact absurd b3 (Int.not_le.2 h96))]; rfl)
        | (rw [extend, if_pos hH1, if_pos hH2, if_pos h102]; rfl)
        | (rw [extend, if_pos hH1, if_pos hH2, if_neg h102, if_pos h106]; rfl)
        | (rw [extend, if_pos hH1, if_pos hH2, if_neg h102, if_neg (by rw [h106]; decide), if_pos h117]; rfl)
        | (rw [extend, if_pos hH1, if_pos hH2, if_neg h102, if_neg (by rw [h106]; decide), if_neg h117]; rfl)
       ·rw [h86]
        replace h86 := of_decide_eq_false h86
        refine GL.guardT rfl ?_
        refine GL.fieldAddr I0.mono (o := 3) rfl rfl rfl rfl (by conv => lhs; whnf) ?_
        refine GL.guardT rfl ?_
        refine GL.load I0.mono rfl rfl rfl rfl (by simp) rfl rfl ?_
        refine GL.guardT rfl ?_
        refine GL.fieldAddr I0.mono (o := 0) rfl rfl rfl rfl (by conv => lhs; whnf) ?_
        refine GL.guardT rfl ?_
        refine GL.load I0.mono rfl rfl rfl rfl (by simp) rfl rfl ?_
        refine GL.guardT rfl ?_
        refine GL.move I0.mono (by conv => lhs; whnf) ?_
        refine GL.guardT rfl ?_
        refine GL.indexAddrF I0.mono (sz := 3) rfl rfl rfl rfl (by omega) (by (rw [em_len]; omega)) (by intro e he; obtain ⟨a, -, rfl⟩ := List.mem_map.1 he; rfl) (by rfl) ?_
        refine GL.guardT rfl ?_
        refine GL.fieldAddrF I0.mono (o := 0) rfl rfl (by conv => lhs; whnf) ?_
        refine GL.guardT rfl ?_
        refine GL.loadF I0.mono rfl rfl (em_get (by omega)) rfl ?_
        refine GL.guardT rfl ?_
        refine GL.bin I0.mono rfl ?_
        refine GL.pick I0.mono rfl (by conv => lhs; whnf) ?_
        refine GL.doneT (by kernel_rfl) ?_
        refine goOn ?_
        refine Wp.condI rfl (fun h96 => ?_) (fun h96 => ?_)
        ·replace h96 := of_decide_eq_true h96
         refine Wp.seqI ?_
         refine Wp.regI I0.mono ?_
         refine GL.buildS I0.mono (z := [LV.bool false, LV.int .i64 0, LV.int .i64 0, LV.int .i64 0, LV.int .u32 0, LV.int .u32 0, LV.int .i64 0]) (cs := [_, _, _, _, _, _, _]) (n := 7) rfl rfl rfl (EvS.nil) rfl rfl ?_
         refine GL.storeW I0.mono (n := 7) rfl rfl rfl rfl rfl rfl rfl (by conv => lhs; whnf) rfl rfl rfl ?_
         refine GL.doneF ?_
         refine goOn ?_
         refine Wp.retI ?_
         refine thenX.ret ?_
         refine RetX.ret ?_
         refine ⟨_, _, _, _, .cons (.cellA (n := 7) rfl rfl rfl (by simp) rfl rfl rfl (Nat.le_of_ble_eq_true rfl)) .nil, .frz ((Frz.aggc (by exact Frz.pure rfl) (Frz.aggc (by exact Frz.pure rfl) (Frz.aggc (by exact Frz.pure rfl) (Frz.aggc (by exact Frz.pure rfl) (Frz.aggc (by exact Frz.pure rfl) (Frz.aggc (by exact Frz.pure rfl) (Frz.aggc (by exact Frz.pure rfl) Frz.aggn)))))))), List.nodup_nil, by simp, ?_⟩
         first
         | (rw [extend, if_neg (by rintro ⟨a1, a2, a3, a4⟩; first | (rw [a1] at h17; cases h17; done) | (rw [a2] at h24; cases h24; done) | omega | exact h35 a4)]; rfl)
         | (rw [extend, if_pos hH1, if_neg (by rintro ⟨b1, b2, b3⟩; first | exact absurd b1 (Int.not_le.2 h81) | exact absurd b2 (Int.not_le.2 h86) | exact absurd b3 (Int.not_le.2 h96))]; rfl)
         | (rw [extend, if_pos hH1, if_pos hH2, if_pos h102]; rfl)
         | (rw [extend, if_pos hH1, if_pos hH2, if_neg h102, if_pos h106]; rfl)
         | (rw [extend, if_pos hH1, if_pos hH2, if_neg h102, if_neg (by rw [h106]; decide), if_pos h117]; rfl)
         | (rw [extend, if_pos hH1, if_pos hH2, if_neg h102, if_neg (by rw [h106]; decide), if_neg h117]; rfl)
        ·replace h96 := of_decide_eq_false h96
         have hH2 : xbeg i h s ≤ (stopAt i s).s2 ∧ 0 ≤ wadd h.load (stopAt i s).s0 ∧ wadd h.load (stopAt i s).s0 ≤ (carAt i c).c0 := ⟨Int.not_lt.1 h81, Int.not_lt.1 h86, Int.not_lt.1 h96⟩
         refine Wp.skipI ?_
         refine goOn ?_
         refine Wp.seqI ?_
         refine Wp.regI I0.mono ?_
         refine GL.loadW I0.mono (n := 4) rfl rfl rfl rfl (by simp) rfl rfl rfl ?_
         refine GL.move I0.mono (by conv => lhs; whnf) ?_
         refine GL.call0 I0.mono rfl (Frz.aggc (by exact Frz.pures rfl) (Frz.aggc (by exact Frz.pure rfl) (Frz.aggn))) (mate_ok i ht.short _) rfl rfl (fun _ => rfl) ?_
         refine GL.call0 I0.mono rfl (Frz.aggc (by exact Frz.pure rfl) (Frz.aggn)) (digit_ok _ (ht.mate _)) rfl rfl (fun _ => rfl) ?_
         refine GL.assign I0.mono (by conv => lhs; whnf) ?_
         refine GL.doneF ?_
         refine goOn ?_
         refine Wp.seqI ?_
         refine Wp.blockI ?_
         refine Wp.seqI ?_
         refine Wp.regI I0.mono ?_
         refine GL.move I0.mono (by conv => lhs; whnf) ?_
         refine GL.eqlB I0.mono (b := 0#32) rfl rfl ?_
         refine GL.assign I0.mono (by conv => lhs; whnf) ?_
         refine GL.doneF ?_
         refine goOn ?_
         refine Wp.condI rfl (fun h102 => ?_) (fun h102 => ?_)
         ·replace h102 := of_decide_eq_true h102
          refine Wp.seqI ?_
          refine Wp.regI I0.mono ?_
          refine GL.loadW I0.mono (n := 7) rfl rfl rfl rfl (by simp) rfl rfl rfl ?_
          refine GL.storeW I0.mono (n := 7) rfl rfl rfl rfl rfl rfl rfl (by conv => lhs; whnf) rfl rfl rfl ?_
          refine GL.doneF ?_
          refine goOn ?_
          refine Wp.retI ?_
          refine blockX.ret ?_
          refine thenX.ret ?_
          refine RetX.ret ?_
          refine ⟨_, _, _, _, .cons (.cellA (n := 7) rfl rfl rfl (by simp) rfl rfl rfl (Nat.le_of_ble_eq_true rfl)) .nil, .frz ((Frz.aggc (by exact Frz.pure rfl) (Frz.aggc (by exact Frz.pure rfl) (Frz.aggc (by exact Frz.pure rfl) (Frz.aggc (by exact Frz.pure rfl) (Frz.aggc (by exact Frz.pure rfl) (Frz.aggc (by exact Frz.pure rfl) (Frz.aggc (by exact Frz.pure rfl) Frz.aggn)))))))), List.nodup_nil, by simp, ?_⟩
          first
          | (rw [extend, if_neg (by rintro ⟨a1, a2, a3, a4⟩; first | (rw [a1] at h17; cases h17; done) | (rw [a2] at h24; cases h24; done) | omega | exact h35 a4)]; rfl)
          | (rw [extend, if_pos hH1, if_neg (by rintro ⟨b1, b2, b3⟩; first | exact absurd b1 (Int.not_le.2 h81) | exact absurd b2 (Int.not_le.2 h86) | exact absurd b3 (Int.not_le.2 h96))]; rfl)
          | (rw [extend, if_pos hH1, if_pos hH2, if_pos h102]; rfl)
          | (rw [extend, if_pos hH1, if_pos hH2, if_neg h102, if_pos h106]; rfl)
          | (rw [extend, if_pos hH1, if_pos hH2, if_neg h102, if_neg (by rw [h106]; decide), if_pos h117]; rfl)
          | (rw [extend, if_pos hH1, if_pos hH2, if_neg h102, if_neg (by rw [h106]; decide), if_neg h117]; rfl)
         ·replace h102 := of_decide_eq_false h102
          refine Wp.seqI ?_
          refine Wp.regI I0.mono ?_
          refine GL.loadW I0.mono (n := 4) rfl rfl rfl rfl (by simp) rfl rfl rfl ?_
          refine GL.move I0.mono (by conv => lhs; whnf) ?_
          refine GL.call0 I0.mono rfl (Frz.aggc (by exact Frz.pures rfl) (Frz.aggc (by exact Frz.pure rfl) (Frz.aggn))) (first_ok i ht.short _) rfl rfl (fun _ => rfl) ?_
          refine GL.assign I0.mono (by conv => lhs; whnf) ?_
          refine GL.doneF ?_
          refine goOn ?_
          refine Wp.condI rfl (fun h106 => ?_) (fun h106 => ?_)
          ·skip
           refine Wp.seqI ?_
           refine Wp.regD ?_
           refine GL.fieldAddr I0.mono (o := 4) rfl rfl rfl rfl (by conv => lhs; whnf) ?_
           refine GL.load I0.mono rfl rfl rfl rfl (by simp) rfl rfl ?_
           refine GL.move I0.mono (by conv => lhs; whnf) ?_
           refine GL.call0 I0.mono rfl (Frz.aggc (by exact Frz.pure rfl) (Frz.aggn)) (digit_ok _ (by omega)) rfl rfl (fun _ => rfl) ?_
           refine GL.orB I0.mono rfl rfl ?_
           refine GL.fieldAddr I0.mono (o := 4) rfl rfl rfl rfl (by conv => lhs; whnf) ?_
           refine GL.store I0.mono (n := 1) rfl rfl rfl rfl rfl rfl rfl rfl rfl rfl (Nat.le_of_ble_eq_true rfl) (by (conv => lhs; simp only [List.take_succ_cons, List.take_zero, List.drop_succ_cons, List.drop_zero, List.nil_append, List.cons_append, List.drop_nil, List.append_nil, List.take_nil, List.set_cons_zero, List.set_cons_succ, Nat.zero_add, ni, nr, nc, ns, np, ic, nt, ei, cellsL, nh, nl, u32])) (by (conv => lhs; simp only [List.take_succ_cons, List.take_zero, List.drop_succ_cons, List.drop_zero, List.nil_append, List.cons_append, List.drop_nil, List.append_nil, List.take_nil, List.set_cons_zero, List.set_cons_succ, Nat.zero_add, ni, nr, nc, ns, np, ic, nt, ei, cellsL, nh, nl, u32])) ?_
           refine GL.doneT (by kernel_rfl) ?_
           refine goOn ?_
           refine Wp.seqI ?_
           refine Wp.regI I0.mono ?_
           refine GL.loadW I0.mono (n := 7) rfl rfl rfl rfl (by simp) rfl rfl rfl ?_
           refine GL.storeW I0.mono (n := 7) rfl rfl rfl rfl rfl rfl rfl (by conv => lhs; whnf) rfl rfl rfl ?_
           refine GL.doneF ?_
           refine goOn ?_
           refine Wp.retI ?_
           refine blockX.ret ?_
           refine thenX.ret ?_
           refine RetX.ret ?_
           refine ⟨_, _, _, _, .cons (.cellA (n := 7) rfl rfl rfl (by simp) rfl rfl rfl (Nat.le_of_ble_eq_true rfl)) .nil, .frz ((Frz.aggc (by exact Frz.pure rfl) (Frz.aggc (by exact Frz.pure rfl) (Frz.aggc (by exact Frz.pure rfl) (Frz.aggc (by exact Frz.pure rfl) (Frz.aggc (by exact Frz.pure rfl) (Frz.aggc (by exact Frz.pure rfl) (Frz.aggc (by exact Frz.pure rfl) Frz.aggn)))))))), List.nodup_nil, by simp, ?_⟩
           first
           | (rw [extend, if_neg (by rintro ⟨a1, a2, a3, a4⟩; first | (rw [a1] at h17; cases h17; done) | (rw [a2] at h24; cases h24; done) | omega | exact h35 a4)]; rfl)
           | (rw [extend, if_pos hH1, if_neg (by rintro ⟨b1, b2, b3⟩; first | exact absurd b1 (Int.not_le.2 h81) | exact absurd b2 (Int.not_le.2 h86) | exact absurd b3 (Int.not_le.2 h96))]; rfl)
           | (rw [extend, if_pos hH1, if_pos hH2, if_pos h102]; rfl)
           | (rw [extend, if_pos hH1, if_pos hH2, if_neg h102, if_pos h106]; rfl)
           | (rw [extend, if_pos hH1, if_pos hH2, if_neg h102, if_neg (by rw [h106]; decide), if_pos h117]; rfl)
           | (rw [extend, if_pos hH1, if_pos hH2, if_neg h102, if_neg (by rw [h106]; decide), if_neg h117]; rfl)
          ·skip
           refine Wp.seqI ?_
           refine Wp.regI I0.mono ?_
           refine GL.fieldAddr I0.mono (o := 4) rfl rfl rfl rfl (by conv => lhs; whnf) ?_
           refine GL.load I0.mono rfl rfl rfl rfl (by simp) rfl rfl ?_
           refine GL.move I0.mono (by conv => lhs; whnf) ?_
           refine GL.andB I0.mono rfl rfl ?_
           refine GL.eqlB I0.mono (b := 0#32) rfl rfl ?_
           refine GL.assign I0.mono (by conv => lhs; whnf) ?_
           refine GL.doneF ?_
           refine goOn ?_
           refine Wp.condI rfl (fun h117 => ?_) (fun h117 => ?_)
           ·replace h117 := of_decide_eq_true h117
            refine Wp.seqI ?_
            refine Wp.regI I0.mono ?_
            refine GL.buildS I0.mono (z := [LV.bool false, LV.int .i64 0, LV.int .i64 0, LV.int .i64 0, LV.int .u32 0, LV.int .u32 0, LV.int .i64 0]) (cs := [_, _, _, _, _, _, _]) (n := 7) rfl rfl rfl (EvS.nil) rfl rfl ?_
            refine GL.storeW I0.mono (n := 7) rfl rfl rfl rfl rfl rfl rfl (by conv => lhs; whnf) rfl rfl rfl ?_
            refine GL.doneF ?_
            refine goOn ?_
            refine Wp.retI ?_
            refine blockX.ret ?_
            refine thenX.ret ?_
            refine RetX.ret ?_
            refine ⟨_, _, _, _, .cons (.cellA (n := 7) rfl rfl rfl (by simp) rfl rfl rfl (Nat.le_of_ble_eq_true rfl)) .nil, .frz ((Frz.aggc (by exact Frz.pure rfl) (Frz.aggc (by exact Frz.pure rfl) (Frz.aggc (by exact Frz.pure rfl) (Frz.aggc (by exact Frz.pure rfl) (Frz.aggc (by exact Frz.pure rfl) (Frz.aggc (by exact Frz.pure rfl) (Frz.aggc (by exact Frz.pure rfl) Frz.aggn)))))))), List.nodup_nil, by simp, ?_⟩
            first
            | (rw [extend, if_neg (by rintro ⟨a1, a2, a3, a4⟩; first | (rw [a1] at h17; cases h17; done) | (rw [a2] at h24; cases h24; done) | omega | exact h35 a4)]; rfl)
            | (rw [extend, if_pos hH1, if_neg (by rintro ⟨b1, b2, b3⟩; first | exact absurd b1 (Int.not_le.2 h81) | exact absurd b2 (Int.not_le.2 h86) | exact absurd b3 (Int.not_le.2 h96))]; rfl)
            | (rw [extend, if_pos hH1, if_pos hH2, if_pos h102]; rfl)
            | (rw [extend, if_pos hH1, if_pos hH2, if_neg h102, if_pos h106]; rfl)
            | (rw [extend, if_pos hH1, if_pos hH2, if_neg h102, if_neg (by rw [h106]; decide), if_pos h117]; rfl)
            | (rw [extend, if_pos hH1, if_pos hH2, if_neg h102, if_neg (by rw [h106]; decide), if_neg h117]; rfl)
           ·replace h117 := of_decide_eq_false h117
            refine Wp.skipI ?_
            refine blockX.normal ?_
            refine goOn ?_
            refine Wp.seqI ?_
            refine Wp.regI I0.mono ?_
            refine GL.fieldAddr I0.mono (o := 4) rfl rfl rfl rfl (by conv => lhs; whnf) ?_
            refine GL.load I0.mono rfl rfl rfl rfl (by simp) rfl rfl ?_
            refine GL.move I0.mono (by conv => lhs; whnf) ?_
            refine GL.andNotB I0.mono rfl rfl ?_
            refine GL.fieldAddr I0.mono (o := 4) rfl rfl rfl rfl (by conv => lhs; whnf) ?_
            refine GL.store I0.mono (n := 1) rfl rfl rfl rfl rfl rfl rfl rfl rfl rfl (Nat.le_of_ble_eq_true rfl) (by (conv => lhs; simp only [List.take_succ_cons, List.take_zero, List.drop_succ_cons, List.drop_zero, List.nil_append, List.cons_append, List.drop_nil, List.append_nil, List.take_nil, List.set_cons_zero, List.set_cons_succ, Nat.zero_add, ni, nr, nc, ns, np, ic, nt, ei, cellsL, nh, nl, u32])) (by (conv => lhs; simp only [List.take_succ_cons, List.take_zero, List.drop_succ_cons, List.drop_zero, List.nil_append, List.cons_append, List.drop_nil, List.append_nil, List.take_nil, List.set_cons_zero, List.set_cons_succ, Nat.zero_add, ni, nr, nc, ns, np, ic, nt, ei, cellsL, nh, nl, u32])) ?_
            refine GL.doneF ?_
            refine goOn ?_
            refine Wp.seqI ?_
            refine Wp.regI I0.mono ?_
            refine GL.loadW I0.mono (n := 7) rfl rfl rfl rfl (by simp) rfl rfl rfl ?_
            refine GL.storeW I0.mono (n := 7) rfl rfl rfl rfl rfl rfl rfl (by conv => lhs; whnf) rfl rfl rfl ?_
            refine GL.doneF ?_
            refine goOn ?_
            refine Wp.retI ?_
            refine RetX.ret ?_
            refine ⟨_, _, _, _, .cons (.cellA (n := 7) rfl rfl rfl (by simp) rfl rfl rfl (Nat.le_of_ble_eq_true rfl)) .nil, .frz ((Frz.aggc (by exact Frz.pure rfl) (Frz.aggc (by exact Frz.pure rfl) (Frz.aggc (by exact Frz.pure rfl) (Frz.aggc (by exact Frz.pure rfl) (Frz.aggc (by exact Frz.pure rfl) (Frz.aggc (by exact Frz.pure rfl) (Frz.aggc (by exact Frz.pure rfl) Frz.aggn)))))))), List.nodup_nil, by simp, ?_⟩
            first
            | (rw [extend, if_neg (by rintro ⟨a1, a2, a3, a4⟩; first | (rw [a1] at h17; cases h17; done) | (rw [a2] at h24; cases h24; done) | omega | exact h35 a4)]; rfl)
            | (rw [extend, if_pos hH1, if_neg (by rintro ⟨b1, b2, b3⟩; first | exact absurd b1 (Int.not_le.2 h81) | exact absurd b2 (Int.not_le.2 h86) | exact absurd b3 (Int.not_le.2 h96))]; rfl)
            | (rw [extend, if_pos hH1, if_pos hH2, if_pos h102]; rfl)
            | (rw [extend, if_pos hH1, if_pos hH2, if_neg h102, if_pos h106]; rfl)
            | (rw [extend, if_pos hH1, if_pos hH2, if_neg h102, if_neg (by rw [h106]; decide), if_pos h117]; rfl)
            | (rw [extend, if_pos hH1, if_pos hH2, if_neg h102, if_neg (by rw [h106]; decide), if_neg h117]; rfl)

set_option maxRecDepth 100000 in
set_option maxHeartbeats 4000000 in
theorem before_ok (i : Inst) (ht : Tb i) (c s : Int) (h : Tail) : CallsV Try.prog 43 [ei i, .int .i64 c, .int .i64 s, .agg (nl h)] (.agg (nl (before i c s h))) := by
  refine CallsR.intro (I0.sound _) mix Try.func43 rfl rfl (by simp [Try.f43]) (by kernel_rfl) (nb := 0) ?_
  unfold Try.f43
  refine Wp.seqI ?_
  refine Wp.regI I0.mono ?_
  refine GL.box I0.mono (by conv => lhs; whnf) rfl (n := 4) rfl rfl ?_
  intro g4
  refine GL.box I0.mono (by conv => lhs; whnf) rfl (n := 8) rfl rfl ?_
  intro g7
  refine GL.alloc I0.mono (cs := [LV.bool false, LV.int .i64 0, LV.int .i64 0, LV.int .i64 0, LV.int .i64 0, LV.int .u32 0, LV.int .u32 0, LV.int .i64 0]) rfl rfl ?_
  intro g8
  refine GL.doneF ?_
  refine goOn ?_
  refine Wp.seqI ?_
  refine Wp.seqI ?_
  have hq := ht.stops
  have hc := ht.short.cars
  unfold Short at hc
  refine Wp.regD ?_
  refine GL.fieldAddr I0.mono (o := 0) rfl rfl rfl rfl (by conv => lhs; whnf) ?_
  refine GL.load I0.mono rfl rfl rfl rfl (by simp) rfl rfl ?_
  refine GL.un I0.mono rfl ?_
  refine GL.move I0.mono (by conv => lhs; whnf) ?_
  refine GL.splitAt 16 rfl (fun h16 => ?_) (fun h16 => ?_)
  ·rw [h16]
   skip
   refine GL.guardF rfl ?_
   refine GL.guardF rfl ?_
   refine GL.guardF rfl ?_
   refine GL.guardF rfl ?_
   refine GL.guardF rfl ?_
   refine GL.pick I0.mono rfl (by conv => lhs; whnf) ?_
   refine GL.move I0.mono (by conv => lhs; whnf) ?_
   refine GL.guardF rfl ?_
   refine GL.guardF rfl ?_
   refine GL.pick I0.mono rfl (by conv => lhs; whnf) ?_
   refine GL.move I0.mono (by conv => lhs; whnf) ?_
   refine GL.guardF rfl ?_
   refine GL.guardF rfl ?_
   refine GL.guardF rfl ?_
   refine GL.guardF rfl ?_
   refine GL.guardF rfl ?_
   refine GL.guardF rfl ?_
   refine GL.pick I0.mono rfl (by conv => lhs; whnf) ?_
   refine GL.doneT (by kernel_rfl) ?_
   refine goOn ?_
   refine Wp.condT rfl ?_
   refine Wp.seqI ?_
   refine Wp.regI I0.mono ?_
   refine GL.buildS I0.mono (z := [LV.bool false, LV.int .i64 0, LV.int .i64 0, LV.int .i64 0, LV.int .i64 0, LV.int .u32 0, LV.int .u32 0, LV.int .i64 0]) (cs := [_, _, _, _, _, _, _, _]) (n := 8) rfl rfl rfl (EvS.nil) rfl rfl ?_
   refine GL.storeW I0.mono (n := 8) rfl rfl rfl rfl rfl rfl rfl (by conv => lhs; whnf) rfl rfl rfl ?_
   refine GL.doneF ?_
   refine goOn ?_
   refine Wp.retI ?_
   refine thenX.ret ?_
   refine RetX.ret ?_
   refine ⟨_, _, _, _, .cons (.cellA (n := 8) rfl rfl rfl (by simp) rfl rfl rfl (Nat.le_of_ble_eq_true rfl)) .nil, .frz ((Frz.aggc (by exact Frz.pure rfl) (Frz.aggc (by exact Frz.pure rfl) (Frz.aggc (by exact Frz.pure rfl) (Frz.aggc (by exact Frz.pure rfl) (Frz.aggc (by exact Frz.pure rfl) (Frz.aggc (by exact Frz.pure rfl) (Frz.aggc (by exact Frz.pure rfl) (Frz.aggc (by exact Frz.pure rfl) Frz.aggn))))))))), List.nodup_nil, by simp, ?_⟩
   first
   | (rw [before, if_neg (by rintro ⟨a1, a2, a3, a4⟩; first | (rw [a1] at h16; cases h16; done) | (rw [a2] at h23; cases h23; done) | omega | exact h34 a4)]; rfl)
   | (rw [before, if_pos hH1, if_neg (fun b => absurd b (Int.not_le.2 (show ylate i s h < (stopAt i s).s1 from h86)))]; rfl)
   | (rw [before, if_pos hH1, if_pos hH2, if_pos h92]; rfl)
   | (rw [before, if_pos hH1, if_pos hH2, if_neg h92, if_pos (nbf h96)]; rfl)
   | (rw [before, if_pos hH1, if_pos hH2, if_neg h92, if_neg (by rw [nbt h96]; decide), if_pos h107]; rfl)
   | (rw [before, if_pos hH1, if_pos hH2, if_neg h92, if_neg (by rw [nbt h96]; decide), if_neg h107]; rfl)
  ·rw [h16]
   skip
   refine GL.guardT rfl ?_
   refine GL.loadW I0.mono (n := 4) rfl rfl rfl rfl (by simp) rfl rfl rfl ?_
   refine GL.guardT rfl ?_
   refine GL.move I0.mono (by conv => lhs; whnf) ?_
   refine GL.guardT rfl ?_
   refine GL.move I0.mono (by conv => lhs; whnf) ?_
   refine GL.guardT rfl ?_
   refine GL.call0 I0.mono rfl (Frz.aggc (by exact Frz.pures rfl) (Frz.aggc (by exact Frz.pure rfl) (Frz.aggc (by exact Frz.pure rfl) (Frz.aggn)))) (isT_ok i ht.short _ _) rfl rfl (fun _ => rfl) ?_
   refine GL.guardT rfl ?_
   refine GL.un I0.mono rfl ?_
   refine GL.pick I0.mono rfl (by conv => lhs; whnf) ?_
   refine GL.move I0.mono (by conv => lhs; whnf) ?_
   refine GL.splitAt 23 rfl (fun h23 => ?_) (fun h23 => ?_)
   ·rw [h23]
    skip
    refine GL.guardF rfl ?_
    refine GL.guardF rfl ?_
    refine GL.pick I0.mono rfl (by conv => lhs; whnf) ?_
    refine GL.move I0.mono (by conv => lhs; whnf) ?_
    refine GL.guardF rfl ?_
    refine GL.guardF rfl ?_
    refine GL.guardF rfl ?_
    refine GL.guardF rfl ?_
    refine GL.guardF rfl ?_
    refine GL.guardF rfl ?_
    refine GL.pick I0.mono rfl (by conv => lhs; whnf) ?_
    refine GL.doneT (by kernel_rfl) ?_
    refine goOn ?_
    refine Wp.condT rfl ?_
    refine Wp.seqI ?_
    refine Wp.regI I0.mono ?_
    refine GL.buildS I0.mono (z := [LV.bool false, LV.int .i64 0, LV.int .i64 0, LV.int .i64 0, LV.int .i64 0, LV.int .u32 0, LV.int .u32 0, LV.int .i64 0]) (cs := [_, _, _, _, _, _, _, _]) (n := 8) rfl rfl rfl (EvS.nil) rfl rfl ?_
    refine GL.storeW I0.mono (n := 8) rfl rfl rfl rfl rfl rfl rfl (by conv => lhs; whnf) rfl rfl rfl ?_
    refine GL.doneF ?_
    refine goOn ?_
    refine Wp.retI ?_
    refine thenX.ret ?_
    refine RetX.ret ?_
    refine ⟨_, _, _, _, .cons (.cellA (n := 8) rfl rfl rfl (by simp) rfl rfl rfl (Nat.le_of_ble_eq_true rfl)) .nil, .frz ((Frz.aggc (by exact Frz.pure rfl) (Frz.aggc (by exact Frz.pure rfl) (Frz.aggc (by exact Frz.pure rfl) (Frz.aggc (by exact Frz.pure rfl) (Frz.aggc (by exact Frz.pure rfl) (Frz.aggc (by exact Frz.pure rfl) (Frz.aggc (by exact Frz.pure rfl) (Frz.aggc (by exact Frz.pure rfl) Frz.aggn))))))))), List.nodup_nil, by simp, ?_⟩
    first
    | (rw [before, if_neg (by rintro ⟨a1, a2, a3, a4⟩; first | (rw [a1] at h16; cases h16; done) | (rw [a2] at h23; cases h23; done) | omega | exact h34 a4)]; rfl)
    | (rw [before, if_pos hH1, if_neg (fun b => absurd b (Int.not_le.2 (show ylate i s h < (stopAt i s).s1 from h86)))]; rfl)
    | (rw [before, if_pos hH1, if_pos hH2, if_pos h92]; rfl)
    | (rw [before, if_pos hH1, if_pos hH2, if_neg h92, if_pos (nbf h96)]; rfl)
    | (rw [before, if_pos hH1, if_pos hH2, if_neg h92, if_neg (by rw [nbt h96]; decide), if_pos h107]; rfl)
    | (rw [before, if_pos hH1, if_pos hH2, if_neg h92, if_neg (by rw [nbt h96]; decide), if_neg h107]; rfl)
   ·rw [h23]
    skip
    refine GL.guardT rfl ?_
    refine GL.move I0.mono (by conv => lhs; whnf) ?_
    refine GL.guardT rfl ?_
    refine GL.bin I0.mono rfl ?_
    refine GL.pick I0.mono rfl (by conv => lhs; whnf) ?_
    refine GL.move I0.mono (by conv => lhs; whnf) ?_
    refine GL.splitAt 27 rfl (fun h27 => ?_) (fun h27 => ?_)
    ·rw [h27]
     replace h27 := of_decide_eq_true h27
     refine GL.guardF rfl ?_
     refine GL.guardF rfl ?_
     refine GL.guardF rfl ?_
     refine GL.guardF rfl ?_
     refine GL.guardF rfl ?_
     refine GL.guardF rfl ?_
     refine GL.pick I0.mono rfl (by conv => lhs; whnf) ?_
     refine GL.doneT (by kernel_rfl) ?_
     refine goOn ?_
     refine Wp.condT rfl ?_
     refine Wp.seqI ?_
     refine Wp.regI I0.mono ?_
     refine GL.buildS I0.mono (z := [LV.bool false, LV.int .i64 0, LV.int .i64 0, LV.int .i64 0, LV.int .i64 0, LV.int .u32 0, LV.int .u32 0, LV.int .i64 0]) (cs := [_, _, _, _, _, _, _, _]) (n := 8) rfl rfl rfl (EvS.nil) rfl rfl ?_
     refine GL.storeW I0.mono (n := 8) rfl rfl rfl rfl rfl rfl rfl (by conv => lhs; whnf) rfl rfl rfl ?_
     refine GL.doneF ?_
     refine goOn ?_
     refine Wp.retI ?_
     refine thenX.ret ?_
     refine RetX.ret ?_
     refine ⟨_, _, _, _, .cons (.cellA (n := 8) rfl rfl rfl (by simp) rfl rfl rfl (Nat.le_of_ble_eq_true rfl)) .nil, .frz ((Frz.aggc (by exact Frz.pure rfl) (Frz.aggc (by exact Frz.pure rfl) (Frz.aggc (by exact Frz.pure rfl) (Frz.aggc (by exact Frz.pure rfl) (Frz.aggc (by exact Frz.pure rfl) (Frz.aggc (by exact Frz.pure rfl) (Frz.aggc (by exact Frz.pure rfl) (Frz.aggc (by exact Frz.pure rfl) Frz.aggn))))))))), List.nodup_nil, by simp, ?_⟩
     first
     | (rw [before, if_neg (by rintro ⟨a1, a2, a3, a4⟩; first | (rw [a1] at h16; cases h16; done) | (rw [a2] at h23; cases h23; done) | omega | exact h34 a4)]; rfl)
     | (rw [before, if_pos hH1, if_neg (fun b => absurd b (Int.not_le.2 (show ylate i s h < (stopAt i s).s1 from h86)))]; rfl)
     | (rw [before, if_pos hH1, if_pos hH2, if_pos h92]; rfl)
     | (rw [before, if_pos hH1, if_pos hH2, if_neg h92, if_pos (nbf h96)]; rfl)
     | (rw [before, if_pos hH1, if_pos hH2, if_neg h92, if_neg (by rw [nbt h96]; decide), if_pos h107]; rfl)
     | (rw [before, if_pos hH1, if_pos hH2, if_neg h92, if_neg (by rw [nbt h96]; decide), if_neg h107]; rfl)
    ·rw [h27]
     replace h27 := of_decide_eq_false h27
     refine GL.guardT rfl ?_
     refine GL.fieldAddr I0.mono (o := 6) rfl rfl rfl rfl (by conv => lhs; whnf) ?_
     refine GL.guardT rfl ?_
     refine GL.load I0.mono rfl rfl rfl rfl (by simp) rfl rfl ?_
     refine GL.guardT rfl ?_
     refine GL.move I0.mono (by conv => lhs; whnf) ?_
     refine GL.guardT rfl ?_
     refine GL.call0 I0.mono rfl (Frz.aggc (by exact Frz.pure rfl) (Frz.aggn)) (digit_ok _ (by have := isT_iff.1 (nbt h23); have := ht.stops; omega)) rfl rfl (fun _ => rfl) ?_
     refine GL.guardT rfl ?_
     refine GL.andB I0.mono rfl rfl ?_
     refine GL.guardT rfl ?_
     refine GL.neqB I0.mono (b := 0#32) rfl rfl ?_
     refine GL.pick I0.mono rfl (by conv => lhs; whnf) ?_
     refine GL.doneT (by kernel_rfl) ?_
     refine goOn ?_
     refine Wp.condI rfl (fun h34 => ?_) (fun h34 => ?_)
     ·replace h34 := of_decide_eq_true h34
      refine Wp.seqI ?_
      refine Wp.regI I0.mono ?_
      refine GL.buildS I0.mono (z := [LV.bool false, LV.int .i64 0, LV.int .i64 0, LV.int .i64 0, LV.int .i64 0, LV.int .u32 0, LV.int .u32 0, LV.int .i64 0]) (cs := [_, _, _, _, _, _, _, _]) (n := 8) rfl rfl rfl (EvS.nil) rfl rfl ?_
      refine GL.storeW I0.mono (n := 8) rfl rfl rfl rfl rfl rfl rfl (by conv => lhs; whnf) rfl rfl rfl ?_
      refine GL.doneF ?_
      refine goOn ?_
      refine Wp.retI ?_
      refine thenX.ret ?_
      refine RetX.ret ?_
      refine ⟨_, _, _, _, .cons (.cellA (n := 8) rfl rfl rfl (by simp) rfl rfl rfl (Nat.le_of_ble_eq_true rfl)) .nil, .frz ((Frz.aggc (by exact Frz.pure rfl) (Frz.aggc (by exact Frz.pure rfl) (Frz.aggc (by exact Frz.pure rfl) (Frz.aggc (by exact Frz.pure rfl) (Frz.aggc (by exact Frz.pure rfl) (Frz.aggc (by exact Frz.pure rfl) (Frz.aggc (by exact Frz.pure rfl) (Frz.aggc (by exact Frz.pure rfl) Frz.aggn))))))))), List.nodup_nil, by simp, ?_⟩
      first
      | (rw [before, if_neg (by rintro ⟨a1, a2, a3, a4⟩; first | (rw [a1] at h16; cases h16; done) | (rw [a2] at h23; cases h23; done) | omega | exact h34 a4)]; rfl)
      | (rw [before, if_pos hH1, if_neg (fun b => absurd b (Int.not_le.2 (show ylate i s h < (stopAt i s).s1 from h86)))]; rfl)
      | (rw [before, if_pos hH1, if_pos hH2, if_pos h92]; rfl)
      | (rw [before, if_pos hH1, if_pos hH2, if_neg h92, if_pos (nbf h96)]; rfl)
      | (rw [before, if_pos hH1, if_pos hH2, if_neg h92, if_neg (by rw [nbt h96]; decide), if_pos h107]; rfl)
      | (rw [before, if_pos hH1, if_pos hH2, if_neg h92, if_neg (by rw [nbt h96]; decide), if_neg h107]; rfl)
     ·replace h34 := of_decide_eq_false h34
      have hT := isT_iff.1 (nbt h23)
      have hH1 : h.ok = true ∧ isT i c s = true ∧ 1 ≤ s ∧ h.set &&& digit s = 0#32 := ⟨nbt h16, nbt h23, by omega, Decidable.not_not.1 h34⟩
      refine Wp.skipI ?_
      refine goOn ?_
      refine Wp.seqI ?_
      refine Wp.regI I0.mono ?_
      refine GL.fieldAddr I0.mono (o := 1) rfl rfl rfl rfl (by conv => lhs; whnf) ?_
      refine GL.load I0.mono rfl rfl rfl rfl (by simp) rfl rfl ?_
      refine GL.move I0.mono (by conv => lhs; whnf) ?_
      refine GL.subR I0.mono rfl rfl (by omega) ?_
      refine GL.indexAddrF I0.mono (sz := 4) rfl rfl rfl rfl (by omega) (by (rw [em_len]; omega)) (by intro e he; obtain ⟨a, -, rfl⟩ := List.mem_map.1 he; rfl) (by rfl) ?_
      refine GL.loadFW I0.mono (n := 4) rfl rfl (em_get (by omega)) rfl rfl ?_
      refine GL.alloc I0.mono (cs := [LV.int .i64 0, LV.int .i64 0, LV.int .i64 0, LV.int .i64 0]) rfl rfl ?_
      intro g9
      refine GL.storeW I0.mono (n := 4) rfl rfl rfl rfl rfl rfl rfl (by conv => lhs; whnf) rfl rfl rfl ?_
      refine GL.doneF ?_
      refine goOn ?_
      refine Wp.seqI ?_
      refine Wp.regI I0.mono ?_
      refine GL.loadW I0.mono (n := 4) rfl rfl rfl rfl (by simp) rfl rfl rfl ?_
      refine GL.move I0.mono (by conv => lhs; whnf) ?_
      refine GL.fieldAddr I0.mono (o := 1) rfl rfl rfl rfl (by conv => lhs; whnf) ?_
      refine GL.load I0.mono rfl rfl rfl rfl (by simp) rfl rfl ?_
      refine GL.call0 I0.mono rfl (Frz.aggc (by exact Frz.pures rfl) (Frz.aggc (by exact Frz.pure rfl) (Frz.aggc (by exact Frz.pure rfl) (Frz.aggn)))) (drive_ok i ht.short _ _) rfl rfl (fun _ => rfl) ?_
      refine GL.assign I0.mono (by conv => lhs; whnf) ?_
      refine GL.doneF ?_
      refine goOn ?_
      refine Wp.seqI ?_
      refine Wp.regD ?_
      refine GL.move I0.mono (by conv => lhs; whnf) ?_
      refine GL.fieldAddr I0.mono (o := 2) rfl rfl rfl rfl (by conv => lhs; whnf) ?_
      refine GL.load I0.mono rfl rfl rfl rfl (by simp) rfl rfl ?_
      refine GL.fieldAddr I0.mono (o := 2) rfl rfl rfl rfl (by conv => lhs; whnf) ?_
      refine GL.load I0.mono rfl rfl rfl rfl (by simp) rfl rfl ?_
      refine GL.move I0.mono (by conv => lhs; whnf) ?_
      refine GL.bin I0.mono rfl ?_
      refine GL.fieldAddr I0.mono (o := 3) rfl rfl rfl rfl (by conv => lhs; whnf) ?_
      refine GL.load I0.mono rfl rfl rfl rfl (by simp) rfl rfl ?_
      refine GL.bin I0.mono rfl ?_
      refine GL.min I0.mono rfl ?_
      refine GL.fieldAddr I0.mono (o := 0) rfl rfl rfl rfl (by conv => lhs; whnf) ?_
      refine GL.load I0.mono rfl rfl rfl rfl (by simp) rfl rfl ?_
      refine GL.fieldAddr I0.mono (o := 3) rfl rfl rfl rfl (by conv => lhs; whnf) ?_
      refine GL.load I0.mono rfl rfl rfl rfl (by simp) rfl rfl ?_
      refine GL.bin I0.mono rfl ?_
      refine GL.min I0.mono rfl ?_
      refine GL.fieldAddr I0.mono (o := 0) rfl rfl rfl rfl (by conv => lhs; whnf) ?_
      refine GL.load I0.mono rfl rfl rfl rfl (by simp) rfl rfl ?_
      refine GL.fieldAddr I0.mono (o := 4) rfl rfl rfl rfl (by conv => lhs; whnf) ?_
      refine GL.load I0.mono rfl rfl rfl rfl (by simp) rfl rfl ?_
      refine GL.bin I0.mono rfl ?_
      refine GL.max I0.mono rfl ?_
      refine GL.fieldAddr I0.mono (o := 5) rfl rfl rfl rfl (by conv => lhs; whnf) ?_
      refine GL.load I0.mono rfl rfl rfl rfl (by simp) rfl rfl ?_
      refine GL.fieldAddr I0.mono (o := 6) rfl rfl rfl rfl (by conv => lhs; whnf) ?_
      refine GL.load I0.mono rfl rfl rfl rfl (by simp) rfl rfl ?_
      refine GL.move I0.mono (by conv => lhs; whnf) ?_
      refine GL.call0 I0.mono rfl (Frz.aggc (by exact Frz.pure rfl) (Frz.aggn)) (digit_ok _ (by omega)) rfl rfl (fun _ => rfl) ?_
      refine GL.orB I0.mono rfl rfl ?_
      refine GL.fieldAddr I0.mono (o := 7) rfl rfl rfl rfl (by conv => lhs; whnf) ?_
      refine GL.load I0.mono rfl rfl rfl rfl (by simp) rfl rfl ?_
      refine GL.move I0.mono (by conv => lhs; whnf) ?_
      refine GL.bin I0.mono rfl ?_
      refine GL.buildS I0.mono (z := [LV.bool false, LV.int .i64 0, LV.int .i64 0, LV.int .i64 0, LV.int .i64 0, LV.int .u32 0, LV.int .u32 0, LV.int .i64 0]) (cs := [_, _, _, _, _, _, _, _]) (n := 8) rfl rfl rfl (EvS.cons (by conv => lhs; whnf) (EvS.cons (by conv => lhs; whnf) (EvS.cons (by conv => lhs; whnf) (EvS.cons (by conv => lhs; whnf) (EvS.cons (by conv => lhs; whnf) (EvS.cons (by conv => lhs; whnf) (EvS.cons (by conv => lhs; whnf) (EvS.cons (by conv => lhs; whnf) (EvS.nil))))))))) rfl rfl ?_
      refine GL.alloc I0.mono (cs := [LV.bool false, LV.int .i64 0, LV.int .i64 0, LV.int .i64 0, LV.int .i64 0, LV.int .u32 0, LV.int .u32 0, LV.int .i64 0]) rfl rfl ?_
      intro g11
      refine GL.storeW I0.mono (n := 8) rfl rfl rfl rfl rfl rfl rfl (by conv => lhs; whnf) rfl rfl rfl ?_
      refine GL.doneT (by kernel_rfl) ?_
      refine goOn ?_
      refine Wp.seqI ?_
      refine Wp.seqI ?_
      refine Wp.regI I0.mono ?_
      refine GL.fieldAddr I0.mono (o := 2) rfl rfl rfl rfl (by conv => lhs; whnf) ?_
      refine GL.load I0.mono rfl rfl rfl rfl (by simp) rfl rfl ?_
      refine GL.fieldAddr I0.mono (o := 1) rfl rfl rfl rfl (by conv => lhs; whnf) ?_
      refine GL.load I0.mono rfl rfl rfl rfl (by simp) rfl rfl ?_
      refine GL.bin I0.mono rfl ?_
      refine GL.doneF ?_
      refine goOn ?_
      refine Wp.condI rfl (fun h86 => ?_) (fun h86 => ?_)
      ·replace h86 := of_decide_eq_true h86
       refine Wp.seqI ?_
       refine Wp.regI I0.mono ?_
       refine GL.buildS I0.mono (z := [LV.bool false, LV.int .i64 0, LV.int .i64 0, LV.int .i64 0, LV.int .i64 0, LV.int .u32 0, LV.int .u32 0, LV.int .i64 0]) (cs := [_, _, _, _, _, _, _, _]) (n := 8) rfl rfl rfl (EvS.nil) rfl rfl ?_
       refine GL.storeW I0.mono (n := 8) rfl rfl rfl rfl rfl rfl rfl (by conv => lhs; whnf) rfl rfl rfl ?_
       refine GL.doneF ?_
       refine goOn ?_
       refine Wp.retI ?_
       refine thenX.ret ?_
       refine RetX.ret ?_
       refine ⟨_, _, _, _, .cons (.cellA (n := 8) rfl rfl rfl (by simp) rfl rfl rfl (Nat.le_of_ble_eq_true rfl)) .nil, .frz ((Frz.aggc (by exact Frz.pure rfl) (Frz.aggc (by exact Frz.pure rfl) (Frz.aggc (by exact Frz.pure rfl) (Frz.aggc (by exact Frz.pure rfl) (Frz.aggc (by exact Frz.pure rfl) (Frz.aggc (by exact Frz.pure rfl) (Frz.aggc (by exact Frz.pure rfl) (Frz.aggc (by exact Frz.pure rfl) Frz.aggn))))))))), List.nodup_nil, by simp, ?_⟩
       first
       | (rw [before, if_neg (by rintro ⟨a1, a2, a3, a4⟩; first | (rw [a1] at h16; cases h16; done) | (rw [a2] at h23; cases h23; done) | omega | exact h34 a4)]; rfl)
       | (rw [before, if_pos hH1, if_neg (fun b => absurd b (Int.not_le.2 (show ylate i s h < (stopAt i s).s1 from h86)))]; rfl)
       | (rw [before, if_pos hH1, if_pos hH2, if_pos h92]; rfl)
       | (rw [before, if_pos hH1, if_pos hH2, if_neg h92, if_pos (nbf h96)]; rfl)
       | (rw [before, if_pos hH1, if_pos hH2, if_neg h92, if_neg (by rw [nbt h96]; decide), if_pos h107]; rfl)
       | (rw [before, if_pos hH1, if_pos hH2, if_neg h92, if_neg (by rw [nbt h96]; decide), if_neg h107]; rfl)
      ·replace h86 := of_decide_eq_false h86
       have hH2 : (stopAt i s).s1 ≤ ylate i s h := Int.not_lt.1 h86
       refine Wp.skipI ?_
       refine goOn ?_
       refine Wp.seqI ?_
       refine Wp.regI I0.mono ?_
       refine GL.loadW I0.mono (n := 4) rfl rfl rfl rfl (by simp) rfl rfl rfl ?_
       refine GL.move I0.mono (by conv => lhs; whnf) ?_
       refine GL.call0 I0.mono rfl (Frz.aggc (by exact Frz.pures rfl) (Frz.aggc (by exact Frz.pure rfl) (Frz.aggn))) (mate_ok i ht.short _) rfl rfl (fun _ => rfl) ?_
       refine GL.call0 I0.mono rfl (Frz.aggc (by exact Frz.pure rfl) (Frz.aggn)) (digit_ok _ (ht.mate _)) rfl rfl (fun _ => rfl) ?_
       refine GL.assign I0.mono (by conv => lhs; whnf) ?_
       refine GL.doneF ?_
       refine goOn ?_
       refine Wp.seqI ?_
       refine Wp.blockI ?_
       refine Wp.seqI ?_
       refine Wp.regI I0.mono ?_
       refine GL.move I0.mono (by conv => lhs; whnf) ?_
       refine GL.eqlB I0.mono (b := 0#32) rfl rfl ?_
       refine GL.assign I0.mono (by conv => lhs; whnf) ?_
       refine GL.doneF ?_
       refine goOn ?_
       refine Wp.condI rfl (fun h92 => ?_) (fun h92 => ?_)
       ·replace h92 := of_decide_eq_true h92
        refine Wp.seqI ?_
        refine Wp.regI I0.mono ?_
        refine GL.loadW I0.mono (n := 8) rfl rfl rfl rfl (by simp) rfl rfl rfl ?_
        refine GL.storeW I0.mono (n := 8) rfl rfl rfl rfl rfl rfl rfl (by conv => lhs; whnf) rfl rfl rfl ?_
        refine GL.doneF ?_
        refine goOn ?_
        refine Wp.retI ?_
        refine blockX.ret ?_
        refine thenX.ret ?_
        refine RetX.ret ?_
        refine ⟨_, _, _, _, .cons (.cellA (n := 8) rfl rfl rfl (by simp) rfl rfl rfl (Nat.le_of_ble_eq_true rfl)) .nil, .frz ((Frz.aggc (by exact Frz.pure rfl) (Frz.aggc (by exact Frz.pure rfl) (Frz.aggc (by exact Frz.pure rfl) (Frz.aggc (by exact Frz.pure rfl) (Frz.aggc (by exact Frz.pure rfl) (Frz.aggc (by exact Frz.pure rfl) (Frz.aggc (by exact Frz.pure rfl) (Frz.aggc (by exact Frz.pure rfl) Frz.aggn))))))))), List.nodup_nil, by simp, ?_⟩
        first
        | (rw [before, if_neg (by rintro ⟨a1, a2, a3, a4⟩; first | (rw [a1] at h16; cases h16; done) | (rw [a2] at h23; cases h23; done) | omega | exact h34 a4)]; rfl)
        | (rw [before, if_pos hH1, if_neg (fun b => absurd b (Int.not_le.2 (show ylate i s h < (stopAt i s).s1 from h86)))]; rfl)
        | (rw [before, if_pos hH1, if_pos hH2, if_pos h92]; rfl)
        | (rw [before, if_pos hH1, if_pos hH2, if_neg h92, if_pos (nbf h96)]; rfl)
        | (rw [before, if_pos hH1, if_pos hH2, if_neg h92, if_neg (by rw [nbt h96]; decide), if_pos h107]; rfl)
        | (rw [before, if_pos hH1, if_pos hH2, if_neg h92, if_neg (by rw [nbt h96]; decide), if_neg h107]; rfl)
       ·replace h92 := of_decide_eq_false h92
        refine Wp.seqI ?_
        refine Wp.regI I0.mono ?_
        refine GL.loadW I0.mono (n := 4) rfl rfl rfl rfl (by simp) rfl rfl rfl ?_
        refine GL.move I0.mono (by conv => lhs; whnf) ?_
        refine GL.call0 I0.mono rfl (Frz.aggc (by exact Frz.pures rfl) (Frz.aggc (by exact Frz.pure rfl) (Frz.aggn))) (first_ok i ht.short _) rfl rfl (fun _ => rfl) ?_
        refine GL.un I0.mono rfl ?_
        refine GL.assign I0.mono (by conv => lhs; whnf) ?_
        refine GL.doneF ?_
        refine goOn ?_
        refine Wp.condI rfl (fun h96 => ?_) (fun h96 => ?_)
        ·skip
         refine Wp.seqI ?_
         refine Wp.regI I0.mono ?_
         refine GL.fieldAddr I0.mono (o := 5) rfl rfl rfl rfl (by conv => lhs; whnf) ?_
         refine GL.load I0.mono rfl rfl rfl rfl (by simp) rfl rfl ?_
         refine GL.move I0.mono (by conv => lhs; whnf) ?_
         refine GL.orB I0.mono rfl rfl ?_
         refine GL.fieldAddr I0.mono (o := 5) rfl rfl rfl rfl (by conv => lhs; whnf) ?_
         refine GL.store I0.mono (n := 1) rfl rfl rfl rfl rfl rfl rfl rfl rfl rfl (Nat.le_of_ble_eq_true rfl) (by (conv => lhs; simp only [List.take_succ_cons, List.take_zero, List.drop_succ_cons, List.drop_zero, List.nil_append, List.cons_append, List.drop_nil, List.append_nil, List.take_nil, List.set_cons_zero, List.set_cons_succ, Nat.zero_add, ni, nr, nc, ns, np, ic, nt, ei, cellsL, nh, nl, u32])) (by (conv => lhs; simp only [List.take_succ_cons, List.take_zero, List.drop_succ_cons, List.drop_zero, List.nil_append, List.cons_append, List.drop_nil, List.append_nil, List.take_nil, List.set_cons_zero, List.set_cons_succ, Nat.zero_add, ni, nr, nc, ns, np, ic, nt, ei, cellsL, nh, nl, u32])) ?_
         refine GL.doneF ?_
         refine goOn ?_
         refine Wp.seqI ?_
         refine Wp.regI I0.mono ?_
         refine GL.loadW I0.mono (n := 8) rfl rfl rfl rfl (by simp) rfl rfl rfl ?_
         refine GL.storeW I0.mono (n := 8) rfl rfl rfl rfl rfl rfl rfl (by conv => lhs; whnf) rfl rfl rfl ?_
         refine GL.doneF ?_
         refine goOn ?_
         refine Wp.retI ?_
         refine blockX.ret ?_
         refine thenX.ret ?_
         refine RetX.ret ?_
         refine ⟨_, _, _, _, .cons (.cellA (n := 8) rfl rfl rfl (by simp) rfl rfl rfl (Nat.le_of_ble_eq_true rfl)) .nil, .frz ((Frz.aggc (by exact Frz.pure rfl) (Frz.aggc (by exact Frz.pure rfl) (Frz.aggc (by exact Frz.pure rfl) (Frz.aggc (by exact Frz.pure rfl) (Frz.aggc (by exact Frz.pure rfl) (Frz.aggc (by exact Frz.pure rfl) (Frz.aggc (by exact Frz.pure rfl) (Frz.aggc (by exact Frz.pure rfl) Frz.aggn))))))))), List.nodup_nil, by simp, ?_⟩
         first
         | (rw [before, if_neg (by rintro ⟨a1, a2, a3, a4⟩; first | (rw [a1] at h16; cases h16; done) | (rw [a2] at h23; cases h23; done) | omega | exact h34 a4)]; rfl)
         | (rw [before, if_pos hH1, if_neg (fun b => absurd b (Int.not_le.2 (show ylate i s h < (stopAt i s).s1 from h86)))]; rfl)
         | (rw [before, if_pos hH1, if_pos hH2, if_pos h92]; rfl)
         | (rw [before, if_pos hH1, if_pos hH2, if_neg h92, if_pos (nbf h96)]; rfl)
         | (rw [before, if_pos hH1, if_pos hH2, if_neg h92, if_neg (by rw [nbt h96]; decide), if_pos h107]; rfl)
         | (rw [before, if_pos hH1, if_pos hH2, if_neg h92, if_neg (by rw [nbt h96]; decide), if_neg h107]; rfl)
        ·skip
         refine Wp.seqI ?_
         refine Wp.regD ?_
         refine GL.fieldAddr I0.mono (o := 5) rfl rfl rfl rfl (by conv => lhs; whnf) ?_
         refine GL.load I0.mono rfl rfl rfl rfl (by simp) rfl rfl ?_
         refine GL.move I0.mono (by conv => lhs; whnf) ?_
         refine GL.call0 I0.mono rfl (Frz.aggc (by exact Frz.pure rfl) (Frz.aggn)) (digit_ok _ (by omega)) rfl rfl (fun _ => rfl) ?_
         refine GL.andB I0.mono rfl rfl ?_
         refine GL.eqlB I0.mono (b := 0#32) rfl rfl ?_
         refine GL.assign I0.mono (by conv => lhs; whnf) ?_
         refine GL.doneT (by kernel_rfl) ?_
         refine goOn ?_
         refine Wp.condI rfl (fun h107 => ?_) (fun h107 => ?_)
         ·replace h107 := of_decide_eq_true h107
          refine Wp.seqI ?_
          refine Wp.regI I0.mono ?_
          refine GL.buildS I0.mono (z := [LV.bool false, LV.int .i64 0, LV.int .i64 0, LV.int .i64 0, LV.int .i64 0, LV.int .u32 0, LV.int .u32 0, LV.int .i64 0]) (cs := [_, _, _, _, _, _, _, _]) (n := 8) rfl rfl rfl (EvS.nil) rfl rfl ?_
          refine GL.storeW I0.mono (n := 8) rfl rfl rfl rfl rfl rfl rfl (by conv => lhs; whnf) rfl rfl rfl ?_
          refine GL.doneF ?_
          refine goOn ?_
          refine Wp.retI ?_
          refine blockX.ret ?_
          refine thenX.ret ?_
          refine RetX.ret ?_
          refine ⟨_, _, _, _, .cons (.cellA (n := 8) rfl rfl rfl (by simp) rfl rfl rfl (Nat.le_of_ble_eq_true rfl)) .nil, .frz ((Frz.aggc (by exact Frz.pure rfl) (Frz.aggc (by exact Frz.pure rfl) (Frz.aggc (by exact Frz.pure rfl) (Frz.aggc (by exact Frz.pure rfl) (Frz.aggc (by exact Frz.pure rfl) (Frz.aggc (by exact Frz.pure rfl) (Frz.aggc (by exact Frz.pure rfl) (Frz.aggc (by exact Frz.pure rfl) Frz.aggn))))))))), List.nodup_nil, by simp, ?_⟩
          first
          | (rw [before, if_neg (by rintro ⟨a1, a2, a3, a4⟩; first | (rw [a1] at h16; cases h16; done) | (rw [a2] at h23; cases h23; done) | omega | exact h34 a4)]; rfl)
          | (rw [before, if_pos hH1, if_neg (fun b => absurd b (Int.not_le.2 (show ylate i s h < (stopAt i s).s1 from h86)))]; rfl)
          | (rw [before, if_pos hH1, if_pos hH2, if_pos h92]; rfl)
          | (rw [before, if_pos hH1, if_pos hH2, if_neg h92, if_pos (nbf h96)]; rfl)
          | (rw [before, if_pos hH1, if_pos hH2, if_neg h92, if_neg (by rw [nbt h96]; decide), if_pos h107]; rfl)
          | (rw [before, if_pos hH1, if_pos hH2, if_neg h92, if_neg (by rw [nbt h96]; decide), if_neg h107]; rfl)
         ·replace h107 := of_decide_eq_false h107
          refine Wp.skipI ?_
          refine blockX.normal ?_
          refine goOn ?_
          refine Wp.seqI ?_
          refine Wp.regD ?_
          refine GL.fieldAddr I0.mono (o := 5) rfl rfl rfl rfl (by conv => lhs; whnf) ?_
          refine GL.load I0.mono rfl rfl rfl rfl (by simp) rfl rfl ?_
          refine GL.move I0.mono (by conv => lhs; whnf) ?_
          refine GL.call0 I0.mono rfl (Frz.aggc (by exact Frz.pure rfl) (Frz.aggn)) (digit_ok _ (by omega)) rfl rfl (fun _ => rfl) ?_
          refine GL.andNotB I0.mono rfl rfl ?_
          refine GL.fieldAddr I0.mono (o := 5) rfl rfl rfl rfl (by conv => lhs; whnf) ?_
          refine GL.store I0.mono (n := 1) rfl rfl rfl rfl rfl rfl rfl rfl rfl rfl (Nat.le_of_ble_eq_true rfl) (by (conv => lhs; simp only [List.take_succ_cons, List.take_zero, List.drop_succ_cons, List.drop_zero, List.nil_append, List.cons_append, List.drop_nil, List.append_nil, List.take_nil, List.set_cons_zero, List.set_cons_succ, Nat.zero_add, ni, nr, nc, ns, np, ic, nt, ei, cellsL, nh, nl, u32])) (by (conv => lhs; simp only [List.take_succ_cons, List.take_zero, List.drop_succ_cons, List.drop_zero, List.nil_append, List.cons_append, List.drop_nil, List.append_nil, List.take_nil, List.set_cons_zero, List.set_cons_succ, Nat.zero_add, ni, nr, nc, ns, np, ic, nt, ei, cellsL, nh, nl, u32])) ?_
          refine GL.doneT (by kernel_rfl) ?_
          refine goOn ?_
          refine Wp.seqI ?_
          refine Wp.regI I0.mono ?_
          refine GL.loadW I0.mono (n := 8) rfl rfl rfl rfl (by simp) rfl rfl rfl ?_
          refine GL.storeW I0.mono (n := 8) rfl rfl rfl rfl rfl rfl rfl (by conv => lhs; whnf) rfl rfl rfl ?_
          refine GL.doneF ?_
          refine goOn ?_
          refine Wp.retI ?_
          refine RetX.ret ?_
          refine ⟨_, _, _, _, .cons (.cellA (n := 8) rfl rfl rfl (by simp) rfl rfl rfl (Nat.le_of_ble_eq_true rfl)) .nil, .frz ((Frz.aggc (by exact Frz.pure rfl) (Frz.aggc (by exact Frz.pure rfl) (Frz.aggc (by exact Frz.pure rfl) (Frz.aggc (by exact Frz.pure rfl) (Frz.aggc (by exact Frz.pure rfl) (Frz.aggc (by exact Frz.pure rfl) (Frz.aggc (by exact Frz.pure rfl) (Frz.aggc (by exact Frz.pure rfl) Frz.aggn))))))))), List.nodup_nil, by simp, ?_⟩
          first
          | (rw [before, if_neg (by rintro ⟨a1, a2, a3, a4⟩; first | (rw [a1] at h16; cases h16; done) | (rw [a2] at h23; cases h23; done) | omega | exact h34 a4)]; rfl)
          | (rw [before, if_pos hH1, if_neg (fun b => absurd b (Int.not_le.2 (show ylate i s h < (stopAt i s).s1 from h86)))]; rfl)
          | (rw [before, if_pos hH1, if_pos hH2, if_pos h92]; rfl)
          | (rw [before, if_pos hH1, if_pos hH2, if_neg h92, if_pos (nbf h96)]; rfl)
          | (rw [before, if_pos hH1, if_pos hH2, if_neg h92, if_neg (by rw [nbt h96]; decide), if_pos h107]; rfl)
          | (rw [before, if_pos hH1, if_pos hH2, if_neg h92, if_neg (by rw [nbt h96]; decide), if_neg h107]; rfl)

set_option maxRecDepth 100000 in
set_option maxHeartbeats 4000000 in
theorem meet_ok (i : Inst) (hs : i.Short) (c : Int) (h : Head) (t : Tail) : CallsV Try.prog 39 [ei i, .int .i64 c, .agg (nh h), .agg (nl t)] (.tup [.int .i64 ((meet i c h t).getD 0), .bool (meet i c h t).isSome]) := by
  refine CallsR.intro (I0.sound _) mix Try.func39 rfl rfl (by simp [Try.f39]) (by kernel_rfl) (nb := 0) ?_
  unfold Try.f39
  refine Wp.seqI ?_
  refine Wp.regI I0.mono ?_
  refine GL.box I0.mono (by conv => lhs; whnf) rfl (n := 4) rfl rfl ?_
  intro g4
  refine GL.box I0.mono (by conv => lhs; whnf) rfl (n := 7) rfl rfl ?_
  intro g6
  refine GL.box I0.mono (by conv => lhs; whnf) rfl (n := 8) rfl rfl ?_
  intro g7
  refine GL.assign I0.mono (by conv => lhs; whnf) ?_
  refine GL.assign I0.mono (by conv => lhs; whnf) ?_
  refine GL.doneF ?_
  refine goOn ?_
  refine Wp.seqI ?_
  refine Wp.seqI ?_
  have hc := hs.cars
  unfold Short at hc
  refine Wp.regI I0.mono ?_
  refine GL.loadW I0.mono (n := 4) rfl rfl rfl rfl (by simp) rfl rfl rfl ?_
  refine GL.move I0.mono (by conv => lhs; whnf) ?_
  refine GL.call0 I0.mono rfl (Frz.aggc (by exact Frz.pures rfl) (Frz.aggc (by exact Frz.pure rfl) (Frz.aggc (by exact Frz.pure rfl) (Frz.aggn)))) (isT_ok i hs _ _) rfl rfl (fun _ => rfl) ?_
  refine GL.un I0.mono rfl ?_
  refine GL.move I0.mono (by conv => lhs; whnf) ?_
  refine GL.splitAt 15 rfl (fun h15 => ?_) (fun h15 => ?_)
  ·rw [h15]
   skip
   refine GL.guardF rfl ?_
   refine GL.guardF rfl ?_
   refine GL.guardF rfl ?_
   refine GL.pick I0.mono rfl (by conv => lhs; whnf) ?_
   refine GL.move I0.mono (by conv => lhs; whnf) ?_
   refine GL.guardF rfl ?_
   refine GL.guardF rfl ?_
   refine GL.guardF rfl ?_
   refine GL.pick I0.mono rfl (by conv => lhs; whnf) ?_
   refine GL.move I0.mono (by conv => lhs; whnf) ?_
   refine GL.guardF rfl ?_
   refine GL.guardF rfl ?_
   refine GL.guardF rfl ?_
   refine GL.guardF rfl ?_
   refine GL.guardF rfl ?_
   refine GL.guardF rfl ?_
   refine GL.pick I0.mono rfl (by conv => lhs; whnf) ?_
   refine GL.move I0.mono (by conv => lhs; whnf) ?_
   refine GL.guardF rfl ?_
   refine GL.guardF rfl ?_
   refine GL.guardF rfl ?_
   refine GL.guardF rfl ?_
   refine GL.guardF rfl ?_
   refine GL.pick I0.mono rfl (by conv => lhs; whnf) ?_
   refine GL.doneF ?_
   refine goOn ?_
   refine Wp.condT rfl ?_
   refine Wp.seqI ?_
   refine Wp.regI I0.mono ?_
   refine GL.assign I0.mono (by conv => lhs; whnf) ?_
   refine GL.assign I0.mono (by conv => lhs; whnf) ?_
   refine GL.doneF ?_
   refine goOn ?_
   refine Wp.retI ?_
   refine thenX.ret ?_
   refine RetX.ret ?_
   refine ⟨_, _, _, _, .cons (.tmp rfl) (.cons (.tmp rfl) .nil), .tup (.aggc (.frz (.pure rfl)) (.aggc (.frz (.pure rfl)) .aggn)), List.nodup_nil, by simp, ?_⟩
   first
   | (rw [meet, if_neg (by rintro ⟨a1, a2, a3, a4, a5⟩; first | (rw [a1] at h15; cases h15; done) | (rw [a2] at h20; cases h20; done) | (rw [a3] at h25; cases h25; done) | exact h33 a4 | exact h39 a5)]; rfl)
   | (rw [meet, if_pos hH1, if_neg (by rintro ⟨b1, b2, b3⟩; first | exact absurd b1 (Int.not_le.2 h53) | exact absurd b2 (Int.not_le.2 h61) | exact absurd b3 (Int.not_le.2 h74))]; rfl)
   | (rw [meet, if_pos hH1, if_pos hH2]; rfl)
  ·rw [h15]
   skip
   refine GL.guardT rfl ?_
   refine GL.fieldAddr I0.mono (o := 0) rfl rfl rfl rfl (by conv => lhs; whnf) ?_
   refine GL.guardT rfl ?_
   refine GL.load I0.mono rfl rfl rfl rfl (by simp) rfl rfl ?_
   refine GL.guardT rfl ?_
   refine GL.un I0.mono rfl ?_
   refine GL.pick I0.mono rfl (by conv => lhs; whnf) ?_
   refine GL.move I0.mono (by conv => lhs; whnf) ?_
   refine GL.splitAt 20 rfl (fun h20 => ?_) (fun h20 => ?_)
   ·rw [h20]
    skip
    refine GL.guardF rfl ?_
    refine GL.guardF rfl ?_
    refine GL.guardF rfl ?_
    refine GL.pick I0.mono rfl (by conv => lhs; whnf) ?_
    refine GL.move I0.mono (by conv => lhs; whnf) ?_
    refine GL.guardF rfl ?_
    refine GL.guardF rfl ?_
    refine GL.guardF rfl ?_
    refine GL.guardF rfl ?_
    refine GL.guardF rfl ?_
    refine GL.guardF rfl ?_
    refine GL.pick I0.mono rfl (by conv => lhs; whnf) ?_
    refine GL.move I0.mono (by conv => lhs; whnf) ?_
    refine GL.guardF rfl ?_
    refine GL.guardF rfl ?_
    refine GL.guardF rfl ?_
    refine GL.guardF rfl ?_
    refine GL.guardF rfl ?_
    refine GL.pick I0.mono rfl (by conv => lhs; whnf) ?_
    refine GL.doneF ?_
    refine goOn ?_
    refine Wp.condT rfl ?_
    refine Wp.seqI ?_
    refine Wp.regI I0.mono ?_
    refine GL.assign I0.mono (by conv => lhs; whnf) ?_
    refine GL.assign I0.mono (by conv => lhs; whnf) ?_
    refine GL.doneF ?_
    refine goOn ?_
    refine Wp.retI ?_
    refine thenX.ret ?_
    refine RetX.ret ?_
    refine ⟨_, _, _, _, .cons (.tmp rfl) (.cons (.tmp rfl) .nil), .tup (.aggc (.frz (.pure rfl)) (.aggc (.frz (.pure rfl)) .aggn)), List.nodup_nil, by simp, ?_⟩
    first
    | (rw [meet, if_neg (by rintro ⟨a1, a2, a3, a4, a5⟩; first | (rw [a1] at h15; cases h15; done) | (rw [a2] at h20; cases h20; done) | (rw [a3] at h25; cases h25; done) | exact h33 a4 | exact h39 a5)]; rfl)
    | (rw [meet, if_pos hH1, if_neg (by rintro ⟨b1, b2, b3⟩; first | exact absurd b1 (Int.not_le.2 h53) | exact absurd b2 (Int.not_le.2 h61) | exact absurd b3 (Int.not_le.2 h74))]; rfl)
    | (rw [meet, if_pos hH1, if_pos hH2]; rfl)
   ·rw [h20]
    skip
    refine GL.guardT rfl ?_
    refine GL.fieldAddr I0.mono (o := 0) rfl rfl rfl rfl (by conv => lhs; whnf) ?_
    refine GL.guardT rfl ?_
    refine GL.load I0.mono rfl rfl rfl rfl (by simp) rfl rfl ?_
    refine GL.guardT rfl ?_
    refine GL.un I0.mono rfl ?_
    refine GL.pick I0.mono rfl (by conv => lhs; whnf) ?_
    refine GL.move I0.mono (by conv => lhs; whnf) ?_
    refine GL.splitAt 25 rfl (fun h25 => ?_) (fun h25 => ?_)
    ·rw [h25]
     skip
     refine GL.guardF rfl ?_
     refine GL.guardF rfl ?_
     refine GL.guardF rfl ?_
     refine GL.guardF rfl ?_
     refine GL.guardF rfl ?_
     refine GL.guardF rfl ?_
     refine GL.pick I0.mono rfl (by conv => lhs; whnf) ?_
     refine GL.move I0.mono (by conv => lhs; whnf) ?_
     refine GL.guardF rfl ?_
     refine GL.guardF rfl ?_
     refine GL.guardF rfl ?_
     refine GL.guardF rfl ?_
     refine GL.guardF rfl ?_
     refine GL.pick I0.mono rfl (by conv => lhs; whnf) ?_
     refine GL.doneF ?_
     refine goOn ?_
     refine Wp.condT rfl ?_
     refine Wp.seqI ?_
     refine Wp.regI I0.mono ?_
     refine GL.assign I0.mono (by conv => lhs; whnf) ?_
     refine GL.assign I0.mono (by conv => lhs; whnf) ?_
     refine GL.doneF ?_
     refine goOn ?_
     refine Wp.retI ?_
     refine thenX.ret ?_
     refine RetX.ret ?_
     refine ⟨_, _, _, _, .cons (.tmp rfl) (.cons (.tmp rfl) .nil), .tup (.aggc (.frz (.pure rfl)) (.aggc (.frz (.pure rfl)) .aggn)), List.nodup_nil, by simp, ?_⟩
     first
     | (rw [meet, if_neg (by rintro ⟨a1, a2, a3, a4, a5⟩; first | (rw [a1] at h15; cases h15; done) | (rw [a2] at h20; cases h20; done) | (rw [a3] at h25; cases h25; done) | exact h33 a4 | exact h39 a5)]; rfl)
     | (rw [meet, if_pos hH1, if_neg (by rintro ⟨b1, b2, b3⟩; first | exact absurd b1 (Int.not_le.2 h53) | exact absurd b2 (Int.not_le.2 h61) | exact absurd b3 (Int.not_le.2 h74))]; rfl)
     | (rw [meet, if_pos hH1, if_pos hH2]; rfl)
    ·rw [h25]
     skip
     refine GL.guardT rfl ?_
     refine GL.fieldAddr I0.mono (o := 5) rfl rfl rfl rfl (by conv => lhs; whnf) ?_
     refine GL.guardT rfl ?_
     refine GL.load I0.mono rfl rfl rfl rfl (by simp) rfl rfl ?_
     refine GL.guardT rfl ?_
     refine GL.fieldAddr I0.mono (o := 6) rfl rfl rfl rfl (by conv => lhs; whnf) ?_
     refine GL.guardT rfl ?_
     refine GL.load I0.mono rfl rfl rfl rfl (by simp) rfl rfl ?_
     refine GL.guardT rfl ?_
     refine GL.andB I0.mono rfl rfl ?_
     refine GL.guardT rfl ?_
     refine GL.neqB I0.mono (b := 0#32) rfl rfl ?_
     refine GL.pick I0.mono rfl (by conv => lhs; whnf) ?_
     refine GL.move I0.mono (by conv => lhs; whnf) ?_
     refine GL.splitAt 33 rfl (fun h33 => ?_) (fun h33 => ?_)
     ·rw [h33]
      replace h33 := of_decide_eq_true h33
      refine GL.guardF rfl ?_
      refine GL.guardF rfl ?_
      refine GL.guardF rfl ?_
      refine GL.guardF rfl ?_
      refine GL.guardF rfl ?_
      refine GL.pick I0.mono rfl (by conv => lhs; whnf) ?_
      refine GL.doneF ?_
      refine goOn ?_
      refine Wp.condT rfl ?_
      refine Wp.seqI ?_
      refine Wp.regI I0.mono ?_
      refine GL.assign I0.mono (by conv => lhs; whnf) ?_
      refine GL.assign I0.mono (by conv => lhs; whnf) ?_
      refine GL.doneF ?_
      refine goOn ?_
      refine Wp.retI ?_
      refine thenX.ret ?_
      refine RetX.ret ?_
      refine ⟨_, _, _, _, .cons (.tmp rfl) (.cons (.tmp rfl) .nil), .tup (.aggc (.frz (.pure rfl)) (.aggc (.frz (.pure rfl)) .aggn)), List.nodup_nil, by simp, ?_⟩
      first
      | (rw [meet, if_neg (by rintro ⟨a1, a2, a3, a4, a5⟩; first | (rw [a1] at h15; cases h15; done) | (rw [a2] at h20; cases h20; done) | (rw [a3] at h25; cases h25; done) | exact h33 a4 | exact h39 a5)]; rfl)
      | (rw [meet, if_pos hH1, if_neg (by rintro ⟨b1, b2, b3⟩; first | exact absurd b1 (Int.not_le.2 h53) | exact absurd b2 (Int.not_le.2 h61) | exact absurd b3 (Int.not_le.2 h74))]; rfl)
      | (rw [meet, if_pos hH1, if_pos hH2]; rfl)
     ·rw [h33]
      replace h33 := of_decide_eq_false h33
      refine GL.guardT rfl ?_
      refine GL.fieldAddr I0.mono (o := 4) rfl rfl rfl rfl (by conv => lhs; whnf) ?_
      refine GL.guardT rfl ?_
      refine GL.load I0.mono rfl rfl rfl rfl (by simp) rfl rfl ?_
      refine GL.guardT rfl ?_
      refine GL.fieldAddr I0.mono (o := 5) rfl rfl rfl rfl (by conv => lhs; whnf) ?_
      refine GL.guardT rfl ?_
      refine GL.load I0.mono rfl rfl rfl rfl (by simp) rfl rfl ?_
      refine GL.guardT rfl ?_
      refine GL.neqB I0.mono rfl rfl ?_
      refine GL.pick I0.mono rfl (by conv => lhs; whnf) ?_
      refine GL.doneF ?_
      refine goOn ?_
      refine Wp.condI rfl (fun h39 => ?_) (fun h39 => ?_)
      ·replace h39 := of_decide_eq_true h39
       refine Wp.seqI ?_
       refine Wp.regI I0.mono ?_
       refine GL.assign I0.mono (by conv => lhs; whnf) ?_
       refine GL.assign I0.mono (by conv => lhs; whnf) ?_
       refine GL.doneF ?_
       refine goOn ?_
       refine Wp.retI ?_
       refine thenX.ret ?_
       refine RetX.ret ?_
       refine ⟨_, _, _, _, .cons (.tmp rfl) (.cons (.tmp rfl) .nil), .tup (.aggc (.frz (.pure rfl)) (.aggc (.frz (.pure rfl)) .aggn)), List.nodup_nil, by simp, ?_⟩
       first
       | (rw [meet, if_neg (by rintro ⟨a1, a2, a3, a4, a5⟩; first | (rw [a1] at h15; cases h15; done) | (rw [a2] at h20; cases h20; done) | (rw [a3] at h25; cases h25; done) | exact h33 a4 | exact h39 a5)]; rfl)
       | (rw [meet, if_pos hH1, if_neg (by rintro ⟨b1, b2, b3⟩; first | exact absurd b1 (Int.not_le.2 h53) | exact absurd b2 (Int.not_le.2 h61) | exact absurd b3 (Int.not_le.2 h74))]; rfl)
       | (rw [meet, if_pos hH1, if_pos hH2]; rfl)
      ·replace h39 := of_decide_eq_false h39
       have hT := isT_iff.1 (nbt h15)
       have hH1 : isT i c 0 = true ∧ h.ok = true ∧ t.ok = true ∧ h.set &&& t.set = 0#32 ∧ h.opn = t.need := ⟨nbt h15, nbt h20, nbt h25, Decidable.not_not.1 h33, Decidable.not_not.1 h39⟩
       refine Wp.skipI ?_
       refine goOn ?_
       refine Wp.seqI ?_
       refine Wp.regI I0.mono ?_
       refine GL.loadW I0.mono (n := 4) rfl rfl rfl rfl (by simp) rfl rfl rfl ?_
       refine GL.fieldAddr I0.mono (o := 1) rfl rfl rfl rfl (by conv => lhs; whnf) ?_
       refine GL.load I0.mono rfl rfl rfl rfl (by simp) rfl rfl ?_
       refine GL.fieldAddr I0.mono (o := 1) rfl rfl rfl rfl (by conv => lhs; whnf) ?_
       refine GL.load I0.mono rfl rfl rfl rfl (by simp) rfl rfl ?_
       refine GL.call0 I0.mono rfl (Frz.aggc (by exact Frz.pures rfl) (Frz.aggc (by exact Frz.pure rfl) (Frz.aggc (by exact Frz.pure rfl) (Frz.aggn)))) (drive_ok i hs _ _) rfl rfl (fun _ => rfl) ?_
       refine GL.assign I0.mono (by conv => lhs; whnf) ?_
       refine GL.doneF ?_
       refine goOn ?_
       refine Wp.seqI ?_
       refine Wp.seqI ?_
       refine Wp.regD ?_
       refine GL.fieldAddr I0.mono (o := 2) rfl rfl rfl rfl (by conv => lhs; whnf) ?_
       refine GL.load I0.mono rfl rfl rfl rfl (by simp) rfl rfl ?_
       refine GL.move I0.mono (by conv => lhs; whnf) ?_
       refine GL.bin I0.mono rfl ?_
       refine GL.fieldAddr I0.mono (o := 2) rfl rfl rfl rfl (by conv => lhs; whnf) ?_
       refine GL.load I0.mono rfl rfl rfl rfl (by simp) rfl rfl ?_
       refine GL.bin I0.mono rfl ?_
       refine GL.move I0.mono (by conv => lhs; whnf) ?_
       refine GL.splitAt 53 rfl (fun h53 => ?_) (fun h53 => ?_)
       ·rw [h53]
        replace h53 := of_decide_eq_true h53
        refine GL.guardF rfl ?_
        refine GL.guardF rfl ?_
        refine GL.guardF rfl ?_
        refine GL.guardF rfl ?_
        refine GL.guardF rfl ?_
        refine GL.guardF rfl ?_
        refine GL.pick I0.mono rfl (by conv => lhs; whnf) ?_
        refine GL.move I0.mono (by conv => lhs; whnf) ?_
        refine GL.guardF rfl ?_
        refine GL.guardF rfl ?_
        refine GL.guardF rfl ?_
        refine GL.guardF rfl ?_
        refine GL.guardF rfl ?_
        refine GL.guardF rfl ?_
        refine GL.guardF rfl ?_
        refine GL.guardF rfl ?_
        refine GL.guardF rfl ?_
        refine GL.guardF rfl ?_
        refine GL.guardF rfl ?_
        refine GL.guardF rfl ?_
        refine GL.pick I0.mono rfl (by conv => lhs; whnf) ?_
        refine GL.doneT (by kernel_rfl) ?_
        refine goOn ?_
        refine Wp.condT rfl ?_
        refine Wp.seqI ?_
        refine Wp.regI I0.mono ?_
        refine GL.assign I0.mono (by conv => lhs; whnf) ?_
        refine GL.assign I0.mono (by conv => lhs; whnf) ?_
        refine GL.doneF ?_
        refine goOn ?_
        refine Wp.retI ?_
        refine thenX.ret ?_
        refine RetX.ret ?_
        refine ⟨_, _, _, _, .cons (.tmp rfl) (.cons (.tmp rfl) .nil), .tup (.aggc (.frz (.pure rfl)) (.aggc (.frz (.pure rfl)) .aggn)), List.nodup_nil, by simp, ?_⟩
        first
        | (rw [meet, if_neg (by rintro ⟨a1, a2, a3, a4, a5⟩; first | (rw [a1] at h15; cases h15; done) | (rw [a2] at h20; cases h20; done) | (rw [a3] at h25; cases h25; done) | exact h33 a4 | exact h39 a5)]; rfl)
        | (rw [meet, if_pos hH1, if_neg (by rintro ⟨b1, b2, b3⟩; first | exact absurd b1 (Int.not_le.2 h53) | exact absurd b2 (Int.not_le.2 h61) | exact absurd b3 (Int.not_le.2 h74))]; rfl)
        | (rw [meet, if_pos hH1, if_pos hH2]; rfl)
       ·rw [h53]
        replace h53 := of_decide_eq_false h53
        refine GL.guardT rfl ?_
        refine GL.fieldAddr I0.mono (o := 3) rfl rfl rfl rfl (by conv => lhs; whnf) ?_
        refine GL.guardT rfl ?_
        refine GL.load I0.mono rfl rfl rfl rfl (by simp) rfl rfl ?_
        refine GL.guardT rfl ?_
        refine GL.fieldAddr I0.mono (o := 3) rfl rfl rfl rfl (by conv => lhs; whnf) ?_
        refine GL.guardT rfl ?_
        refine GL.load I0.mono rfl rfl rfl rfl (by simp) rfl rfl ?_
        refine GL.guardT rfl ?_
        refine GL.bin I0.mono rfl ?_
        refine GL.guardT rfl ?_
        refine GL.bin I0.mono rfl ?_
        refine GL.pick I0.mono rfl (by conv => lhs; whnf) ?_
        refine GL.move I0.mono (by conv => lhs; whnf) ?_
        refine GL.splitAt 61 rfl (fun h61 => ?_) (fun h61 => ?_)
        ·rw [h61]
         replace h61 := of_decide_eq_true h61
         refine GL.guardF rfl ?_
         refine GL.guardF rfl ?_
         refine GL.guardF rfl ?_
         refine GL.guardF rfl ?_
         refine GL.guardF rfl ?_
         refine GL.guardF rfl ?_
         refine GL.guardF rfl ?_
         refine GL.guardF rfl ?_
         refine GL.guardF rfl ?_
         refine GL.guardF rfl ?_
         refine GL.guardF rfl ?_
         refine GL.guardF rfl ?_
         refine GL.pick I0.mono rfl (by conv => lhs; whnf) ?_
         refine GL.doneT (by kernel_rfl) ?_
         refine goOn ?_
         refine Wp.condT rfl ?_
         refine Wp.seqI ?_
         refine Wp.regI I0.mono ?_
         refine GL.assign I0.mono (by conv => lhs; whnf) ?_
         refine GL.assign I0.mono (by conv => lhs; whnf) ?_
         refine GL.doneF ?_
         refine goOn ?_
         refine Wp.retI ?_
         refine thenX.ret ?_
         refine RetX.ret ?_
         refine ⟨_, _, _, _, .cons (.tmp rfl) (.cons (.tmp rfl) .nil), .tup (.aggc (.frz (.pure rfl)) (.aggc (.frz (.pure rfl)) .aggn)), List.nodup_nil, by simp, ?_⟩
         first
         | (rw [meet, if_neg (by rintro ⟨a1, a2, a3, a4, a5⟩; first | (rw [a1] at h15; cases h15; done) | (rw [a2] at h20; cases h20; done) | (rw [a3] at h25; cases h25; done) | exact h33 a4 | exact h39 a5)]; rfl)
         | (rw [meet, if_pos hH1, if_neg (by rintro ⟨b1, b2, b3⟩; first | exact absurd b1 (Int.not_le.2 h53) | exact absurd b2 (Int.not_le.2 h61) | exact absurd b3 (Int.not_le.2 h74))]; rfl)
         | (rw [meet, if_pos hH1, if_pos hH2]; rfl)
        ·rw [h61]
         replace h61 := of_decide_eq_false h61
         refine GL.guardT rfl ?_
         refine GL.fieldAddr I0.mono (o := 3) rfl rfl rfl rfl (by conv => lhs; whnf) ?_
         refine GL.guardT rfl ?_
         refine GL.load I0.mono rfl rfl rfl rfl (by simp) rfl rfl ?_
         refine GL.guardT rfl ?_
         refine GL.fieldAddr I0.mono (o := 4) rfl rfl rfl rfl (by conv => lhs; whnf) ?_
         refine GL.guardT rfl ?_
         refine GL.load I0.mono rfl rfl rfl rfl (by simp) rfl rfl ?_
         refine GL.guardT rfl ?_
         refine GL.bin I0.mono rfl ?_
         refine GL.guardT rfl ?_
         refine GL.fieldAddr I0.mono (o := 0) rfl rfl rfl rfl (by conv => lhs; whnf) ?_
         refine GL.guardT rfl ?_
         refine GL.load I0.mono rfl rfl rfl rfl (by simp) rfl rfl ?_
         refine GL.guardT rfl ?_
         refine GL.move I0.mono (by conv => lhs; whnf) ?_
         refine GL.guardT rfl ?_
         refine GL.indexAddrF I0.mono (sz := 3) rfl rfl rfl rfl (by omega) (by (rw [em_len]; omega)) (by intro e he; obtain ⟨a, -, rfl⟩ := List.mem_map.1 he; rfl) (by rfl) ?_
         refine GL.guardT rfl ?_
         refine GL.fieldAddrF I0.mono (o := 0) rfl rfl (by conv => lhs; whnf) ?_
         refine GL.guardT rfl ?_
         refine GL.loadF I0.mono rfl rfl (em_get (by omega)) rfl ?_
         refine GL.guardT rfl ?_
         refine GL.bin I0.mono rfl ?_
         refine GL.pick I0.mono rfl (by conv => lhs; whnf) ?_
         refine GL.doneT (by kernel_rfl) ?_
         refine goOn ?_
         refine Wp.condI rfl (fun h74 => ?_) (fun h74 => ?_)
         ·replace h74 := of_decide_eq_true h74
          refine Wp.seqI ?_
          refine Wp.regI I0.mono ?_
          refine GL.assign I0.mono (by conv => lhs; whnf) ?_
          refine GL.assign I0.mono (by conv => lhs; whnf) ?_
          refine GL.doneF ?_
          refine goOn ?_
          refine Wp.retI ?_
          refine thenX.ret ?_
          refine RetX.ret ?_
          refine ⟨_, _, _, _, .cons (.tmp rfl) (.cons (.tmp rfl) .nil), .tup (.aggc (.frz (.pure rfl)) (.aggc (.frz (.pure rfl)) .aggn)), List.nodup_nil, by simp, ?_⟩
          first
          | (rw [meet, if_neg (by rintro ⟨a1, a2, a3, a4, a5⟩; first | (rw [a1] at h15; cases h15; done) | (rw [a2] at h20; cases h20; done) | (rw [a3] at h25; cases h25; done) | exact h33 a4 | exact h39 a5)]; rfl)
          | (rw [meet, if_pos hH1, if_neg (by rintro ⟨b1, b2, b3⟩; first | exact absurd b1 (Int.not_le.2 h53) | exact absurd b2 (Int.not_le.2 h61) | exact absurd b3 (Int.not_le.2 h74))]; rfl)
          | (rw [meet, if_pos hH1, if_pos hH2]; rfl)
         ·replace h74 := of_decide_eq_false h74
          have hH2 : wadd h.leave (drive i h.last t.first) ≤ t.late ∧ 0 ≤ wadd h.load t.low ∧ wadd h.load t.high ≤ (carAt i c).c0 := ⟨Int.not_lt.1 h53, Int.not_lt.1 h61, Int.not_lt.1 h74⟩
          refine Wp.skipI ?_
          refine goOn ?_
          refine Wp.seqI ?_
          refine Wp.regI I0.mono ?_
          refine GL.fieldAddr I0.mono (o := 6) rfl rfl rfl rfl (by conv => lhs; whnf) ?_
          refine GL.load I0.mono rfl rfl rfl rfl (by simp) rfl rfl ?_
          refine GL.move I0.mono (by conv => lhs; whnf) ?_
          refine GL.bin I0.mono rfl ?_
          refine GL.fieldAddr I0.mono (o := 7) rfl rfl rfl rfl (by conv => lhs; whnf) ?_
          refine GL.load I0.mono rfl rfl rfl rfl (by simp) rfl rfl ?_
          refine GL.bin I0.mono rfl ?_
          refine GL.assign I0.mono (by conv => lhs; whnf) ?_
          refine GL.assign I0.mono (by conv => lhs; whnf) ?_
          refine GL.doneF ?_
          refine goOn ?_
          refine Wp.retI ?_
          refine RetX.ret ?_
          refine ⟨_, _, _, _, .cons (.tmp rfl) (.cons (.tmp rfl) .nil), .tup (.aggc (.frz (.pure rfl)) (.aggc (.frz (.pure rfl)) .aggn)), List.nodup_nil, by simp, ?_⟩
          first
          | (rw [meet, if_neg (by rintro ⟨a1, a2, a3, a4, a5⟩; first | (rw [a1] at h15; cases h15; done) | (rw [a2] at h20; cases h20; done) | (rw [a3] at h25; cases h25; done) | exact h33 a4 | exact h39 a5)]; rfl)
          | (rw [meet, if_pos hH1, if_neg (by rintro ⟨b1, b2, b3⟩; first | exact absurd b1 (Int.not_le.2 h53) | exact absurd b2 (Int.not_le.2 h61) | exact absurd b3 (Int.not_le.2 h74))]; rfl)
          | (rw [meet, if_pos hH1, if_pos hH2]; rfl)

end Go.Proofs.Ytpepcfombibpeaa
