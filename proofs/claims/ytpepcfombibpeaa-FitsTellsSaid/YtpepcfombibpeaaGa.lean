/- The methods that ask a table, walked. -/
import Derived.Test.YtpepcfombibpeaaFo
import Derived.Test.YtpepcfombibpeaaMvC
import Derived.KernelRfl
set_option linter.unusedVariables false
set_option linter.unusedSimpArgs false
namespace Go.Proofs.Ytpepcfombibpeaa
open Go.Proofs Mv


set_option maxRecDepth 100000 in
set_option maxHeartbeats 4000000 in
theorem tlen_ok (i : Inst) (c n : Int) (HL : List Head) (TL : List Tail) : CallsV Try.prog 56 [tabP i c n HL TL] (.int .i64 n) := by
  refine CallsR.intro (I0.sound _) mix Try.func56 rfl rfl (by simp [Try.f56]) (by kernel_rfl) (nb := 0) ?_
  unfold Try.f56
  refine Wp.seqI ?_
  refine Wp.regI I0.mono ?_
  refine GL.assign I0.mono (by conv => lhs; whnf) ?_
  refine GL.doneF ?_
  refine goOn ?_
  refine Wp.seqI ?_
  refine Wp.regI I0.mono ?_
  refine GL.move I0.mono (by conv => lhs; whnf) ?_
  refine GL.nilCheckF I0.mono rfl ?_
  refine GL.fieldAddrF I0.mono (o := 5) rfl rfl (by conv => lhs; whnf) ?_
  refine GL.loadF I0.mono rfl rfl (by rfl) rfl ?_
  refine GL.assign I0.mono (by conv => lhs; whnf) ?_
  refine GL.doneF ?_
  refine goOn ?_
  refine Wp.retI ?_
  refine RetX.ret ?_
  refine ⟨_, _, _, _, .cons (.tmp rfl) .nil, .frz (.pure rfl), List.nodup_nil, by simp, ?_⟩
  rfl

set_option maxRecDepth 100000 in
set_option maxHeartbeats 4000000 in
theorem thead_ok (i : Inst) (c n : Int) (HL : List Head) (TL : List Tail) (k : Int) : CallsV Try.prog 76 [tabP i c n HL TL, .int .i64 k] (.agg (nh (headAt HL k))) := by
  refine CallsR.intro (I0.sound _) mix Try.func76 rfl rfl (by simp [Try.f76]) (by kernel_rfl) (nb := 0) ?_
  unfold Try.f76
  refine Wp.seqI ?_
  refine Wp.regI I0.mono ?_
  refine GL.alloc I0.mono (cs := [LV.bool false, LV.int .i64 0, LV.int .i64 0, LV.int .i64 0, LV.int .u32 0, LV.int .u32 0, LV.int .i64 0]) rfl rfl ?_
  intro g4
  refine GL.doneF ?_
  refine goOn ?_
  refine Wp.seqI ?_
  refine Wp.seqI ?_
  refine Wp.regI I0.mono ?_
  refine GL.move I0.mono (by conv => lhs; whnf) ?_
  refine GL.bin I0.mono rfl ?_
  refine GL.move I0.mono (by conv => lhs; whnf) ?_
  refine GL.splitAt 7 rfl (fun h7 => ?_) (fun h7 => ?_)
  ·rw [h7]
   replace h7 := of_decide_eq_true h7
   refine GL.guardF rfl ?_
   refine GL.guardF rfl ?_
   refine GL.guardF rfl ?_
   refine GL.guardF rfl ?_
   refine GL.guardF rfl ?_
   refine GL.guardF rfl ?_
   refine GL.guardF rfl ?_
   refine GL.pick I0.mono rfl (by conv => lhs; whnf) ?_
   refine GL.doneF ?_
   refine goOn ?_
   refine Wp.condT rfl ?_
   refine Wp.seqI ?_
   refine Wp.regI I0.mono ?_
   refine GL.buildS I0.mono (z := [LV.bool false, LV.int .i64 0, LV.int .i64 0, LV.int .i64 0, LV.int .u32 0, LV.int .u32 0, LV.int .i64 0]) (cs := [_, _, _, _, _, _, _]) (n := 7) rfl rfl rfl (EvS.nil) rfl rfl ?_
   refine GL.storeW I0.mono (n := 7) rfl rfl rfl rfl rfl rfl rfl (by conv => lhs; whnf) rfl rfl rfl ?_
   refine GL.doneF ?_
   refine goOn ?_
   refine Wp.retI ?_
   refine thenX.ret ?_
   refine RetX.ret ?_
   refine ⟨_, _, _, _, .cons (.cellA (n := 7) rfl rfl rfl (by simp) rfl rfl rfl (Nat.le_of_ble_eq_true rfl)) .nil, .frz ((Frz.aggc (by exact Frz.pure rfl) (Frz.aggc (by exact Frz.pure rfl) (Frz.aggc (by exact Frz.pure rfl) (Frz.aggc (by exact Frz.pure rfl) (Frz.aggc (by exact Frz.pure rfl) (Frz.aggc (by exact Frz.pure rfl) (Frz.aggc (by exact Frz.pure rfl) Frz.aggn)))))))), List.nodup_nil, by simp, ?_⟩
   (rw [headAt, if_pos (by omega)]; rfl)
  ·rw [h7]
   replace h7 := of_decide_eq_false h7
   refine GL.guardT rfl ?_
   refine GL.move I0.mono (by conv => lhs; whnf) ?_
   refine GL.guardT rfl ?_
   refine GL.move I0.mono (by conv => lhs; whnf) ?_
   refine GL.guardT rfl ?_
   refine GL.nilCheckF I0.mono rfl ?_
   refine GL.guardT rfl ?_
   refine GL.fieldAddrF I0.mono (o := 6) rfl rfl (by conv => lhs; whnf) ?_
   refine GL.guardT rfl ?_
   refine GL.loadF I0.mono rfl rfl (by rfl) rfl ?_
   refine GL.guardT rfl ?_
   refine GL.lenF I0.mono rfl rfl (em_len _ _) ?_
   refine GL.guardT rfl ?_
   refine GL.bin I0.mono rfl ?_
   refine GL.pick I0.mono rfl (by conv => lhs; whnf) ?_
   refine GL.doneF ?_
   refine goOn ?_
   refine Wp.condI rfl (fun h15 => ?_) (fun h15 => ?_)
   ·replace h15 := of_decide_eq_true h15
    refine Wp.seqI ?_
    refine Wp.regI I0.mono ?_
    refine GL.buildS I0.mono (z := [LV.bool false, LV.int .i64 0, LV.int .i64 0, LV.int .i64 0, LV.int .u32 0, LV.int .u32 0, LV.int .i64 0]) (cs := [_, _, _, _, _, _, _]) (n := 7) rfl rfl rfl (EvS.nil) rfl rfl ?_
    refine GL.storeW I0.mono (n := 7) rfl rfl rfl rfl rfl rfl rfl (by conv => lhs; whnf) rfl rfl rfl ?_
    refine GL.doneF ?_
    refine goOn ?_
    refine Wp.retI ?_
    refine thenX.ret ?_
    refine RetX.ret ?_
    refine ⟨_, _, _, _, .cons (.cellA (n := 7) rfl rfl rfl (by simp) rfl rfl rfl (Nat.le_of_ble_eq_true rfl)) .nil, .frz ((Frz.aggc (by exact Frz.pure rfl) (Frz.aggc (by exact Frz.pure rfl) (Frz.aggc (by exact Frz.pure rfl) (Frz.aggc (by exact Frz.pure rfl) (Frz.aggc (by exact Frz.pure rfl) (Frz.aggc (by exact Frz.pure rfl) (Frz.aggc (by exact Frz.pure rfl) Frz.aggn)))))))), List.nodup_nil, by simp, ?_⟩
    (rw [headAt, if_pos (by omega)]; rfl)
   ·replace h15 := of_decide_eq_false h15
    refine Wp.skipI ?_
    refine goOn ?_
    refine Wp.seqI ?_
    refine Wp.regI I0.mono ?_
    refine GL.move I0.mono (by conv => lhs; whnf) ?_
    refine GL.nilCheckF I0.mono rfl ?_
    refine GL.fieldAddrF I0.mono (o := 6) rfl rfl (by conv => lhs; whnf) ?_
    refine GL.loadF I0.mono rfl rfl (by rfl) rfl ?_
    refine GL.move I0.mono (by conv => lhs; whnf) ?_
    refine GL.indexAddrF I0.mono (sz := 7) rfl rfl rfl rfl (by omega) (by (rw [em_len]; omega)) (by intro e he; obtain ⟨a, -, rfl⟩ := List.mem_map.1 he; rfl) (by rfl) ?_
    refine GL.loadFW I0.mono (n := 7) rfl rfl (by exact em_get (by omega)) rfl rfl ?_
    refine GL.storeW I0.mono (n := 7) rfl rfl rfl rfl rfl rfl rfl (by conv => lhs; whnf) rfl rfl rfl ?_
    refine GL.doneF ?_
    refine goOn ?_
    refine Wp.retI ?_
    refine RetX.ret ?_
    refine ⟨_, _, _, _, .cons (.cellA (n := 7) rfl rfl rfl (by simp) rfl rfl rfl (Nat.le_of_ble_eq_true rfl)) .nil, .frz ((Frz.aggc (by exact Frz.pure rfl) (Frz.aggc (by exact Frz.pure rfl) (Frz.aggc (by exact Frz.pure rfl) (Frz.aggc (by exact Frz.pure rfl) (Frz.aggc (by exact Frz.pure rfl) (Frz.aggc (by exact Frz.pure rfl) (Frz.aggc (by exact Frz.pure rfl) Frz.aggn)))))))), List.nodup_nil, by simp, ?_⟩
    (rw [headAt, if_neg (by omega)]; rfl)

set_option maxRecDepth 100000 in
set_option maxHeartbeats 4000000 in
theorem ttail_ok (i : Inst) (c n : Int) (HL : List Head) (TL : List Tail) (k : Int) : CallsV Try.prog 77 [tabP i c n HL TL, .int .i64 k] (.agg (nl (tailAt TL k))) := by
  refine CallsR.intro (I0.sound _) mix Try.func77 rfl rfl (by simp [Try.f77]) (by kernel_rfl) (nb := 0) ?_
  unfold Try.f77
  refine Wp.seqI ?_
  refine Wp.regI I0.mono ?_
  refine GL.alloc I0.mono (cs := [LV.bool false, LV.int .i64 0, LV.int .i64 0, LV.int .i64 0, LV.int .i64 0, LV.int .u32 0, LV.int .u32 0, LV.int .i64 0]) rfl rfl ?_
  intro g4
  refine GL.doneF ?_
  refine goOn ?_
  refine Wp.seqI ?_
  refine Wp.seqI ?_
  refine Wp.regI I0.mono ?_
  refine GL.move I0.mono (by conv => lhs; whnf) ?_
  refine GL.bin I0.mono rfl ?_
  refine GL.move I0.mono (by conv => lhs; whnf) ?_
  refine GL.splitAt 7 rfl (fun h7 => ?_) (fun h7 => ?_)
  ·rw [h7]
   replace h7 := of_decide_eq_true h7
   refine GL.guardF rfl ?_
   refine GL.guardF rfl ?_
   refine GL.guardF rfl ?_
   refine GL.guardF rfl ?_
   refine GL.guardF rfl ?_
   refine GL.guardF rfl ?_
   refine GL.guardF rfl ?_
   refine GL.pick I0.mono rfl (by conv => lhs; whnf) ?_
   refine GL.doneF ?_
   refine goOn ?_
   refine Wp.condT rfl ?_
   refine Wp.seqI ?_
   refine Wp.regI I0.mono ?_
   refine GL.buildS I0.mono (z := [LV.bool false, LV.int .i64 0, LV.int .i64 0, LV.int .i64 0, LV.int .i64 0, LV.int .u32 0, LV.int .u32 0, LV.int .i64 0]) (cs := [_, _, _, _, _, _, _, _]) (n := 8) rfl rfl rfl (EvS.nil) rfl rfl ?_
   refine GL.storeW I0.mono (n := 8) rfl rfl rfl rfl rfl rfl rfl (by conv => lhs; whnf) rfl rfl rfl ?_
   refine GL.doneF ?_
   refine goOn ?_
   refine Wp.retI ?_
   refine thenX.ret ?_
   refine RetX.ret ?_
   refine ⟨_, _, _, _, .cons (.cellA (n := 8) rfl rfl rfl (by simp) rfl rfl rfl (Nat.le_of_ble_eq_true rfl)) .nil, .frz ((Frz.aggc (by exact Frz.pure rfl) (Frz.aggc (by exact Frz.pure rfl) (Frz.aggc (by exact Frz.pure rfl) (Frz.aggc (by exact Frz.pure rfl) (Frz.aggc (by exact Frz.pure rfl) (Frz.aggc (by exact Frz.pure rfl) (Frz.aggc (by exact Frz.pure rfl) (Frz.aggc (by exact Frz.pure rfl) Frz.aggn))))))))), List.nodup_nil, by simp, ?_⟩
   (rw [tailAt, if_pos (by omega)]; rfl)
  ·rw [h7]
   replace h7 := of_decide_eq_false h7
   refine GL.guardT rfl ?_
   refine GL.move I0.mono (by conv => lhs; whnf) ?_
   refine GL.guardT rfl ?_
   refine GL.move I0.mono (by conv => lhs; whnf) ?_
   refine GL.guardT rfl ?_
   refine GL.nilCheckF I0.mono rfl ?_
   refine GL.guardT rfl ?_
   refine GL.fieldAddrF I0.mono (o := 7) rfl rfl (by conv => lhs; whnf) ?_
   refine GL.guardT rfl ?_
   refine GL.loadF I0.mono rfl rfl (by rfl) rfl ?_
   refine GL.guardT rfl ?_
   refine GL.lenF I0.mono rfl rfl (em_len _ _) ?_
   refine GL.guardT rfl ?_
   refine GL.bin I0.mono rfl ?_
   refine GL.pick I0.mono rfl (by conv => lhs; whnf) ?_
   refine GL.doneF ?_
   refine goOn ?_
   refine Wp.condI rfl (fun h15 => ?_) (fun h15 => ?_)
   ·replace h15 := of_decide_eq_true h15
    refine Wp.seqI ?_
    refine Wp.regI I0.mono ?_
    refine GL.buildS I0.mono (z := [LV.bool false, LV.int .i64 0, LV.int .i64 0, LV.int .i64 0, LV.int .i64 0, LV.int .u32 0, LV.int .u32 0, LV.int .i64 0]) (cs := [_, _, _, _, _, _, _, _]) (n := 8) rfl rfl rfl (EvS.nil) rfl rfl ?_
    refine GL.storeW I0.mono (n := 8) rfl rfl rfl rfl rfl rfl rfl (by conv => lhs; whnf) rfl rfl rfl ?_
    refine GL.doneF ?_
    refine goOn ?_
    refine Wp.retI ?_
    refine thenX.ret ?_
    refine RetX.ret ?_
    refine ⟨_, _, _, _, .cons (.cellA (n := 8) rfl rfl rfl (by simp) rfl rfl rfl (Nat.le_of_ble_eq_true rfl)) .nil, .frz ((Frz.aggc (by exact Frz.pure rfl) (Frz.aggc (by exact Frz.pure rfl) (Frz.aggc (by exact Frz.pure rfl) (Frz.aggc (by exact Frz.pure rfl) (Frz.aggc (by exact Frz.pure rfl) (Frz.aggc (by exact Frz.pure rfl) (Frz.aggc (by exact Frz.pure rfl) (Frz.aggc (by exact Frz.pure rfl) Frz.aggn))))))))), List.nodup_nil, by simp, ?_⟩
    (rw [tailAt, if_pos (by omega)]; rfl)
   ·replace h15 := of_decide_eq_false h15
    refine Wp.skipI ?_
    refine goOn ?_
    refine Wp.seqI ?_
    refine Wp.regI I0.mono ?_
    refine GL.move I0.mono (by conv => lhs; whnf) ?_
    refine GL.nilCheckF I0.mono rfl ?_
    refine GL.fieldAddrF I0.mono (o := 7) rfl rfl (by conv => lhs; whnf) ?_
    refine GL.loadF I0.mono rfl rfl (by rfl) rfl ?_
    refine GL.move I0.mono (by conv => lhs; whnf) ?_
    refine GL.indexAddrF I0.mono (sz := 8) rfl rfl rfl rfl (by omega) (by (rw [em_len]; omega)) (by intro e he; obtain ⟨a, -, rfl⟩ := List.mem_map.1 he; rfl) (by rfl) ?_
    refine GL.loadFW I0.mono (n := 8) rfl rfl (by exact em_get (by omega)) rfl rfl ?_
    refine GL.storeW I0.mono (n := 8) rfl rfl rfl rfl rfl rfl rfl (by conv => lhs; whnf) rfl rfl rfl ?_
    refine GL.doneF ?_
    refine goOn ?_
    refine Wp.retI ?_
    refine RetX.ret ?_
    refine ⟨_, _, _, _, .cons (.cellA (n := 8) rfl rfl rfl (by simp) rfl rfl rfl (Nat.le_of_ble_eq_true rfl)) .nil, .frz ((Frz.aggc (by exact Frz.pure rfl) (Frz.aggc (by exact Frz.pure rfl) (Frz.aggc (by exact Frz.pure rfl) (Frz.aggc (by exact Frz.pure rfl) (Frz.aggc (by exact Frz.pure rfl) (Frz.aggc (by exact Frz.pure rfl) (Frz.aggc (by exact Frz.pure rfl) (Frz.aggc (by exact Frz.pure rfl) Frz.aggn))))))))), List.nodup_nil, by simp, ?_⟩
    (rw [tailAt, if_neg (by omega)]; rfl)

set_option maxRecDepth 100000 in
set_option maxHeartbeats 4000000 in
theorem twhole_ok (i : Inst) (c n : Int) (HL : List Head) (TL : List Tail) (hs : i.Short) : CallsV Try.prog 51 [tabP i c n HL TL] (.tup [.int .i64 ((meet i c (headAt HL n) (tailAt TL n)).getD 0), .bool (meet i c (headAt HL n) (tailAt TL n)).isSome]) := by
  refine CallsR.intro (I0.sound _) mix Try.func51 rfl rfl (by simp [Try.f51]) (by kernel_rfl) (nb := 0) ?_
  unfold Try.f51
  refine Wp.seqI ?_
  refine Wp.regI I0.mono ?_
  refine GL.assign I0.mono (by conv => lhs; whnf) ?_
  refine GL.assign I0.mono (by conv => lhs; whnf) ?_
  refine GL.doneF ?_
  refine goOn ?_
  refine Wp.seqI ?_
  refine Wp.regD ?_
  refine GL.move I0.mono (by conv => lhs; whnf) ?_
  refine GL.nilCheckF I0.mono rfl ?_
  refine GL.fieldAddrF I0.mono (o := 0) rfl rfl (by conv => lhs; whnf) ?_
  refine GL.loadFA I0.mono (n := 4) rfl rfl (by rfl) rfl (Nat.le_of_ble_eq_true rfl) (by (conv => lhs; simp only [List.take_succ_cons, List.take_zero, List.drop_succ_cons, List.drop_zero, List.nil_append, List.cons_append, List.drop_nil, List.append_nil, List.take_nil, List.set_cons_zero, List.set_cons_succ, Nat.zero_add, ni, nr, nc, ns, np, ic, nt, ei, cellsL, nh, nl, u32, tabL])) ?_
  refine GL.move I0.mono (by conv => lhs; whnf) ?_
  refine GL.nilCheckF I0.mono rfl ?_
  refine GL.fieldAddrF I0.mono (o := 4) rfl rfl (by conv => lhs; whnf) ?_
  refine GL.loadF I0.mono rfl rfl (by rfl) rfl ?_
  refine GL.move I0.mono (by conv => lhs; whnf) ?_
  refine GL.move I0.mono (by conv => lhs; whnf) ?_
  refine GL.nilCheckF I0.mono rfl ?_
  refine GL.fieldAddrF I0.mono (o := 5) rfl rfl (by conv => lhs; whnf) ?_
  refine GL.loadF I0.mono rfl rfl (by rfl) rfl ?_
  refine GL.call0 I0.mono rfl (Frz.aggc (by exact Frz.pure rfl) (Frz.aggc (by exact Frz.pure rfl) (Frz.aggn))) (thead_ok i c n HL TL _) rfl rfl (fun _ => rfl) ?_
  refine GL.move I0.mono (by conv => lhs; whnf) ?_
  refine GL.move I0.mono (by conv => lhs; whnf) ?_
  refine GL.nilCheckF I0.mono rfl ?_
  refine GL.fieldAddrF I0.mono (o := 5) rfl rfl (by conv => lhs; whnf) ?_
  refine GL.loadF I0.mono rfl rfl (by rfl) rfl ?_
  refine GL.call0 I0.mono rfl (Frz.aggc (by exact Frz.pure rfl) (Frz.aggc (by exact Frz.pure rfl) (Frz.aggn))) (ttail_ok i c n HL TL _) rfl rfl (fun _ => rfl) ?_
  refine GL.call0 I0.mono rfl (Frz.aggc (by exact Frz.pures rfl) (Frz.aggc (by exact Frz.pure rfl) (Frz.aggc (by exact Frz.pures rfl) (Frz.aggc (by exact Frz.pures rfl) (Frz.aggn))))) (meet_ok i hs c _ _) rfl rfl (fun _ => rfl) ?_
  refine GL.extract I0.mono rfl rfl ?_
  refine GL.extract I0.mono rfl rfl ?_
  refine GL.assign I0.mono (by conv => lhs; whnf) ?_
  refine GL.assign I0.mono (by conv => lhs; whnf) ?_
  refine GL.doneT (by kernel_rfl) ?_
  refine goOn ?_
  refine Wp.retI ?_
  refine RetX.ret ?_
  refine ⟨_, _, _, _, .cons (.tmp rfl) (.cons (.tmp rfl) .nil), .tup (.aggc (.frz (.pure rfl)) (.aggc (.frz (.pure rfl)) .aggn)), List.nodup_nil, by simp, ?_⟩
  rfl

set_option maxRecDepth 100000 in
set_option maxHeartbeats 4000000 in
theorem tinsert_ok (i : Inst) (c n : Int) (HL : List Head) (TL : List Tail) (ht : Tb i) (k s : Int) : CallsV Try.prog 53 [tabP i c n HL TL, .int .i64 k, .int .i64 s] (.tup [.int .i64 ((meet i c (extend i c (headAt HL k) s) (tailAt TL k)).getD 0), .bool (meet i c (extend i c (headAt HL k) s) (tailAt TL k)).isSome]) := by
  refine CallsR.intro (I0.sound _) mix Try.func53 rfl rfl (by simp [Try.f53]) (by kernel_rfl) (nb := 0) ?_
  unfold Try.f53
  refine Wp.seqI ?_
  refine Wp.regI I0.mono ?_
  refine GL.assign I0.mono (by conv => lhs; whnf) ?_
  refine GL.assign I0.mono (by conv => lhs; whnf) ?_
  refine GL.doneF ?_
  refine goOn ?_
  refine Wp.seqI ?_
  refine Wp.regD ?_
  refine GL.move I0.mono (by conv => lhs; whnf) ?_
  refine GL.nilCheckF I0.mono rfl ?_
  refine GL.fieldAddrF I0.mono (o := 0) rfl rfl (by conv => lhs; whnf) ?_
  refine GL.loadFA I0.mono (n := 4) rfl rfl (by rfl) rfl (Nat.le_of_ble_eq_true rfl) (by (conv => lhs; simp only [List.take_succ_cons, List.take_zero, List.drop_succ_cons, List.drop_zero, List.nil_append, List.cons_append, List.drop_nil, List.append_nil, List.take_nil, List.set_cons_zero, List.set_cons_succ, Nat.zero_add, ni, nr, nc, ns, np, ic, nt, ei, cellsL, nh, nl, u32, tabL])) ?_
  refine GL.move I0.mono (by conv => lhs; whnf) ?_
  refine GL.nilCheckF I0.mono rfl ?_
  refine GL.fieldAddrF I0.mono (o := 4) rfl rfl (by conv => lhs; whnf) ?_
  refine GL.loadF I0.mono rfl rfl (by rfl) rfl ?_
  refine GL.move I0.mono (by conv => lhs; whnf) ?_
  refine GL.nilCheckF I0.mono rfl ?_
  refine GL.fieldAddrF I0.mono (o := 0) rfl rfl (by conv => lhs; whnf) ?_
  refine GL.loadFA I0.mono (n := 4) rfl rfl (by rfl) rfl (Nat.le_of_ble_eq_true rfl) (by (conv => lhs; simp only [List.take_succ_cons, List.take_zero, List.drop_succ_cons, List.drop_zero, List.nil_append, List.cons_append, List.drop_nil, List.append_nil, List.take_nil, List.set_cons_zero, List.set_cons_succ, Nat.zero_add, ni, nr, nc, ns, np, ic, nt, ei, cellsL, nh, nl, u32, tabL])) ?_
  refine GL.move I0.mono (by conv => lhs; whnf) ?_
  refine GL.nilCheckF I0.mono rfl ?_
  refine GL.fieldAddrF I0.mono (o := 4) rfl rfl (by conv => lhs; whnf) ?_
  refine GL.loadF I0.mono rfl rfl (by rfl) rfl ?_
  refine GL.move I0.mono (by conv => lhs; whnf) ?_
  refine GL.move I0.mono (by conv => lhs; whnf) ?_
  refine GL.call0 I0.mono rfl (Frz.aggc (by exact Frz.pure rfl) (Frz.aggc (by exact Frz.pure rfl) (Frz.aggn))) (thead_ok i c n HL TL _) rfl rfl (fun _ => rfl) ?_
  refine GL.move I0.mono (by conv => lhs; whnf) ?_
  refine GL.call0 I0.mono rfl (Frz.aggc (by exact Frz.pures rfl) (Frz.aggc (by exact Frz.pure rfl) (Frz.aggc (by exact Frz.pures rfl) (Frz.aggc (by exact Frz.pure rfl) (Frz.aggn))))) (extend_ok i ht c _ _) rfl rfl (fun _ => rfl) ?_
  refine GL.move I0.mono (by conv => lhs; whnf) ?_
  refine GL.move I0.mono (by conv => lhs; whnf) ?_
  refine GL.call0 I0.mono rfl (Frz.aggc (by exact Frz.pure rfl) (Frz.aggc (by exact Frz.pure rfl) (Frz.aggn))) (ttail_ok i c n HL TL _) rfl rfl (fun _ => rfl) ?_
  refine GL.call0 I0.mono rfl (Frz.aggc (by exact Frz.pures rfl) (Frz.aggc (by exact Frz.pure rfl) (Frz.aggc (by exact Frz.pures rfl) (Frz.aggc (by exact Frz.pures rfl) (Frz.aggn))))) (meet_ok i ht.short c _ _) rfl rfl (fun _ => rfl) ?_
  refine GL.extract I0.mono rfl rfl ?_
  refine GL.extract I0.mono rfl rfl ?_
  refine GL.assign I0.mono (by conv => lhs; whnf) ?_
  refine GL.assign I0.mono (by conv => lhs; whnf) ?_
  refine GL.doneT (by kernel_rfl) ?_
  refine goOn ?_
  refine Wp.retI ?_
  refine RetX.ret ?_
  refine ⟨_, _, _, _, .cons (.tmp rfl) (.cons (.tmp rfl) .nil), .tup (.aggc (.frz (.pure rfl)) (.aggc (.frz (.pure rfl)) .aggn)), List.nodup_nil, by simp, ?_⟩
  rfl

set_option maxRecDepth 100000 in
set_option maxHeartbeats 4000000 in
theorem tremove_ok (i : Inst) (c n : Int) (HL : List Head) (TL : List Tail) (hs : i.Short) (k : Int) : CallsV Try.prog 57 [tabP i c n HL TL, .int .i64 k] (.tup [.int .i64 ((meet i c (headAt HL k) (tailAt TL (wadd k 1))).getD 0), .bool (meet i c (headAt HL k) (tailAt TL (wadd k 1))).isSome]) := by
  refine CallsR.intro (I0.sound _) mix Try.func57 rfl rfl (by simp [Try.f57]) (by kernel_rfl) (nb := 0) ?_
  unfold Try.f57
  refine Wp.seqI ?_
  refine Wp.regI I0.mono ?_
  refine GL.assign I0.mono (by conv => lhs; whnf) ?_
  refine GL.assign I0.mono (by conv => lhs; whnf) ?_
  refine GL.doneF ?_
  refine goOn ?_
  refine Wp.seqI ?_
  refine Wp.regD ?_
  refine GL.move I0.mono (by conv => lhs; whnf) ?_
  refine GL.nilCheckF I0.mono rfl ?_
  refine GL.fieldAddrF I0.mono (o := 0) rfl rfl (by conv => lhs; whnf) ?_
  refine GL.loadFA I0.mono (n := 4) rfl rfl (by rfl) rfl (Nat.le_of_ble_eq_true rfl) (by (conv => lhs; simp only [List.take_succ_cons, List.take_zero, List.drop_succ_cons, List.drop_zero, List.nil_append, List.cons_append, List.drop_nil, List.append_nil, List.take_nil, List.set_cons_zero, List.set_cons_succ, Nat.zero_add, ni, nr, nc, ns, np, ic, nt, ei, cellsL, nh, nl, u32, tabL])) ?_
  refine GL.move I0.mono (by conv => lhs; whnf) ?_
  refine GL.nilCheckF I0.mono rfl ?_
  refine GL.fieldAddrF I0.mono (o := 4) rfl rfl (by conv => lhs; whnf) ?_
  refine GL.loadF I0.mono rfl rfl (by rfl) rfl ?_
  refine GL.move I0.mono (by conv => lhs; whnf) ?_
  refine GL.move I0.mono (by conv => lhs; whnf) ?_
  refine GL.call0 I0.mono rfl (Frz.aggc (by exact Frz.pure rfl) (Frz.aggc (by exact Frz.pure rfl) (Frz.aggn))) (thead_ok i c n HL TL _) rfl rfl (fun _ => rfl) ?_
  refine GL.move I0.mono (by conv => lhs; whnf) ?_
  refine GL.move I0.mono (by conv => lhs; whnf) ?_
  refine GL.bin I0.mono rfl ?_
  refine GL.call0 I0.mono rfl (Frz.aggc (by exact Frz.pure rfl) (Frz.aggc (by exact Frz.pure rfl) (Frz.aggn))) (ttail_ok i c n HL TL _) rfl rfl (fun _ => rfl) ?_
  refine GL.call0 I0.mono rfl (Frz.aggc (by exact Frz.pures rfl) (Frz.aggc (by exact Frz.pure rfl) (Frz.aggc (by exact Frz.pures rfl) (Frz.aggc (by exact Frz.pures rfl) (Frz.aggn))))) (meet_ok i hs c _ _) rfl rfl (fun _ => rfl) ?_
  refine GL.extract I0.mono rfl rfl ?_
  refine GL.extract I0.mono rfl rfl ?_
  refine GL.assign I0.mono (by conv => lhs; whnf) ?_
  refine GL.assign I0.mono (by conv => lhs; whnf) ?_
  refine GL.doneT (by kernel_rfl) ?_
  refine goOn ?_
  refine Wp.retI ?_
  refine RetX.ret ?_
  refine ⟨_, _, _, _, .cons (.tmp rfl) (.cons (.tmp rfl) .nil), .tup (.aggc (.frz (.pure rfl)) (.aggc (.frz (.pure rfl)) .aggn)), List.nodup_nil, by simp, ?_⟩
  rfl

set_option maxRecDepth 100000 in
set_option maxHeartbeats 4000000 in
theorem tcross_ok (i : Inst) (c n : Int) (HL : List Head) (TL : List Tail) (hs : i.Short) (i2 : Inst) (c2 n2 : Int) (HL2 : List Head) (TL2 : List Tail) (k q : Int) : CallsV Try.prog 49 [tabP i c n HL TL, .int .i64 k, tabP i2 c2 n2 HL2 TL2, .int .i64 q] (.tup [.int .i64 ((meet i c (headAt HL k) (tailAt TL2 q)).getD 0), .bool (meet i c (headAt HL k) (tailAt TL2 q)).isSome]) := by
  refine CallsR.intro (I0.sound _) mix Try.func49 rfl rfl (by simp [Try.f49]) (by kernel_rfl) (nb := 0) ?_
  unfold Try.f49
  refine Wp.seqI ?_
  refine Wp.regI I0.mono ?_
  refine GL.assign I0.mono (by conv => lhs; whnf) ?_
  refine GL.assign I0.mono (by conv => lhs; whnf) ?_
  refine GL.doneF ?_
  refine goOn ?_
  refine Wp.seqI ?_
  refine Wp.regD ?_
  refine GL.move I0.mono (by conv => lhs; whnf) ?_
  refine GL.nilCheckF I0.mono rfl ?_
  refine GL.fieldAddrF I0.mono (o := 0) rfl rfl (by conv => lhs; whnf) ?_
  refine GL.loadFA I0.mono (n := 4) rfl rfl (by rfl) rfl (Nat.le_of_ble_eq_true rfl) (by (conv => lhs; simp only [List.take_succ_cons, List.take_zero, List.drop_succ_cons, List.drop_zero, List.nil_append, List.cons_append, List.drop_nil, List.append_nil, List.take_nil, List.set_cons_zero, List.set_cons_succ, Nat.zero_add, ni, nr, nc, ns, np, ic, nt, ei, cellsL, nh, nl, u32, tabL])) ?_
  refine GL.move I0.mono (by conv => lhs; whnf) ?_
  refine GL.nilCheckF I0.mono rfl ?_
  refine GL.fieldAddrF I0.mono (o := 4) rfl rfl (by conv => lhs; whnf) ?_
  refine GL.loadF I0.mono rfl rfl (by rfl) rfl ?_
  refine GL.move I0.mono (by conv => lhs; whnf) ?_
  refine GL.move I0.mono (by conv => lhs; whnf) ?_
  refine GL.call0 I0.mono rfl (Frz.aggc (by exact Frz.pure rfl) (Frz.aggc (by exact Frz.pure rfl) (Frz.aggn))) (thead_ok i c n HL TL _) rfl rfl (fun _ => rfl) ?_
  refine GL.move I0.mono (by conv => lhs; whnf) ?_
  refine GL.move I0.mono (by conv => lhs; whnf) ?_
  refine GL.call0 I0.mono rfl (Frz.aggc (by exact Frz.pure rfl) (Frz.aggc (by exact Frz.pure rfl) (Frz.aggn))) (ttail_ok i2 c2 n2 HL2 TL2 _) rfl rfl (fun _ => rfl) ?_
  refine GL.call0 I0.mono rfl (Frz.aggc (by exact Frz.pures rfl) (Frz.aggc (by exact Frz.pure rfl) (Frz.aggc (by exact Frz.pures rfl) (Frz.aggc (by exact Frz.pures rfl) (Frz.aggn))))) (meet_ok i hs c _ _) rfl rfl (fun _ => rfl) ?_
  refine GL.extract I0.mono rfl rfl ?_
  refine GL.extract I0.mono rfl rfl ?_
  refine GL.assign I0.mono (by conv => lhs; whnf) ?_
  refine GL.assign I0.mono (by conv => lhs; whnf) ?_
  refine GL.doneT (by kernel_rfl) ?_
  refine goOn ?_
  refine Wp.retI ?_
  refine RetX.ret ?_
  refine ⟨_, _, _, _, .cons (.tmp rfl) (.cons (.tmp rfl) .nil), .tup (.aggc (.frz (.pure rfl)) (.aggc (.frz (.pure rfl)) .aggn)), List.nodup_nil, by simp, ?_⟩
  rfl

end Go.Proofs.Ytpepcfombibpeaa
