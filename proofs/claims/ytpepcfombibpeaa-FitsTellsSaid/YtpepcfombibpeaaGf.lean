/- Whether an answer is right; a stop put in a place: walked. -/
import Derived.Test.YtpepcfombibpeaaGc
import Derived.Test.YtpepcfombibpeaaMvC
import Derived.KernelRfl
set_option linter.unusedVariables false
set_option linter.unusedSimpArgs false
namespace Go.Proofs.Ytpepcfombibpeaa
open Go.Proofs Mv



set_option maxRecDepth 100000 in
set_option maxHeartbeats 4000000 in
theorem right_t (I : Inst) (c : Int) (l : List Int) (T : Trip) (he : CallsV Try.prog 32 [ei I, .int .i64 c, .sl (em ni l)] (.tup [.agg (nt T), .bool true])) : CallsV Try.prog 50 [ei I, .int .i64 c, .sl (em ni l), .int .i64 T.t2, .bool true] (.bool true) := by
  refine CallsR.intro (I0.sound _) mix Try.func50 rfl rfl (by simp [Try.f50]) (by kernel_rfl) (nb := 0) ?_
  unfold Try.f50
  refine Wp.seqI ?_
  refine Wp.regI I0.mono ?_
  refine GL.box I0.mono (by conv => lhs; whnf) rfl (n := 4) rfl rfl ?_
  intro g5
  refine GL.assign I0.mono (by conv => lhs; whnf) ?_
  refine GL.doneF ?_
  refine goOn ?_
  refine Wp.seqI ?_
  refine Wp.regI I0.mono ?_
  refine GL.loadW I0.mono (n := 4) rfl rfl rfl rfl (by simp) rfl rfl rfl ?_
  refine GL.move I0.mono (by conv => lhs; whnf) ?_
  refine GL.move I0.mono (by conv => lhs; whnf) ?_
  refine GL.call0 I0.mono rfl (Frz.aggc (by exact Frz.pures rfl) (Frz.aggc (by exact Frz.pure rfl) (Frz.aggc (by exact Frz.pure rfl) (Frz.aggn)))) (he) rfl rfl (fun _ => rfl) ?_
  refine GL.move I0.mono (by conv => lhs; whnf) ?_
  refine GL.extract I0.mono rfl rfl ?_
  refine GL.extract I0.mono rfl rfl ?_
  refine GL.alloc I0.mono (cs := [LV.nils, LV.nils, LV.int .i64 0, LV.int .i64 0]) rfl rfl ?_
  intro g11
  refine GL.storeW I0.mono (n := 4) rfl rfl rfl rfl rfl rfl rfl (by conv => lhs; whnf) rfl rfl rfl ?_
  refine GL.assign I0.mono (by conv => lhs; whnf) ?_
  refine GL.doneF ?_
  refine goOn ?_
  refine Wp.seqI ?_
  refine Wp.regI I0.mono ?_
  refine GL.move I0.mono (by conv => lhs; whnf) ?_
  refine GL.move I0.mono (by conv => lhs; whnf) ?_
  refine GL.bin I0.mono (v := .bool true) (by kernel_rfl) ?_
  refine GL.move I0.mono (by conv => lhs; whnf) ?_
  refine GL.guardT rfl ?_
  refine GL.move I0.mono (by conv => lhs; whnf) ?_
  refine GL.guardT rfl ?_
  refine GL.move I0.mono (by conv => lhs; whnf) ?_
  refine GL.guardT rfl ?_
  refine GL.move I0.mono (by conv => lhs; whnf) ?_
  refine GL.guardT rfl ?_
  refine GL.fieldAddr I0.mono (o := 2) rfl rfl rfl rfl (by conv => lhs; whnf) ?_
  refine GL.guardT rfl ?_
  refine GL.load I0.mono rfl rfl rfl rfl (by simp) rfl rfl ?_
  refine GL.guardT rfl ?_
  refine GL.bin I0.mono (v := .bool true) (by show some (LV.bool (T.t2 == T.t2)) = _; rw [beq_self_eq_true]) ?_
  refine GL.guardT rfl ?_
  refine GL.pick I0.mono rfl (by conv => lhs; whnf) ?_
  refine GL.guardT rfl ?_
  refine GL.move I0.mono (by conv => lhs; whnf) ?_
  refine GL.guardF rfl ?_
  refine GL.guardF rfl ?_
  refine GL.guardF rfl ?_
  refine GL.guardF rfl ?_
  refine GL.guardF rfl ?_
  refine GL.guardF rfl ?_
  refine GL.guardT rfl ?_
  refine GL.pick I0.mono rfl (by conv => lhs; whnf) ?_
  refine GL.pick I0.mono rfl (by conv => lhs; whnf) ?_
  refine GL.assign I0.mono (by conv => lhs; whnf) ?_
  refine GL.doneF ?_
  refine goOn ?_
  refine Wp.retI ?_
  refine RetX.ret ?_
  refine ⟨_, _, _, _, .cons (.tmp rfl) .nil, .frz (.pure rfl), List.nodup_nil, by simp, ?_⟩
  rfl

set_option maxRecDepth 100000 in
set_option maxHeartbeats 4000000 in
theorem right_f (I : Inst) (c : Int) (l : List Int) (T : Trip) (he : CallsV Try.prog 32 [ei I, .int .i64 c, .sl (em ni l)] (.tup [.agg (nt T), .bool false])) : CallsV Try.prog 50 [ei I, .int .i64 c, .sl (em ni l), .int .i64 0, .bool false] (.bool true) := by
  refine CallsR.intro (I0.sound _) mix Try.func50 rfl rfl (by simp [Try.f50]) (by kernel_rfl) (nb := 0) ?_
  unfold Try.f50
  refine Wp.seqI ?_
  refine Wp.regI I0.mono ?_
  refine GL.box I0.mono (by conv => lhs; whnf) rfl (n := 4) rfl rfl ?_
  intro g5
  refine GL.assign I0.mono (by conv => lhs; whnf) ?_
  refine GL.doneF ?_
  refine goOn ?_
  refine Wp.seqI ?_
  refine Wp.regI I0.mono ?_
  refine GL.loadW I0.mono (n := 4) rfl rfl rfl rfl (by simp) rfl rfl rfl ?_
  refine GL.move I0.mono (by conv => lhs; whnf) ?_
  refine GL.move I0.mono (by conv => lhs; whnf) ?_
  refine GL.call0 I0.mono rfl (Frz.aggc (by exact Frz.pures rfl) (Frz.aggc (by exact Frz.pure rfl) (Frz.aggc (by exact Frz.pure rfl) (Frz.aggn)))) (he) rfl rfl (fun _ => rfl) ?_
  refine GL.move I0.mono (by conv => lhs; whnf) ?_
  refine GL.extract I0.mono rfl rfl ?_
  refine GL.extract I0.mono rfl rfl ?_
  refine GL.alloc I0.mono (cs := [LV.nils, LV.nils, LV.int .i64 0, LV.int .i64 0]) rfl rfl ?_
  intro g11
  refine GL.storeW I0.mono (n := 4) rfl rfl rfl rfl rfl rfl rfl (by conv => lhs; whnf) rfl rfl rfl ?_
  refine GL.assign I0.mono (by conv => lhs; whnf) ?_
  refine GL.doneF ?_
  refine goOn ?_
  refine Wp.seqI ?_
  refine Wp.regI I0.mono ?_
  refine GL.move I0.mono (by conv => lhs; whnf) ?_
  refine GL.move I0.mono (by conv => lhs; whnf) ?_
  refine GL.bin I0.mono (v := .bool true) (by kernel_rfl) ?_
  refine GL.move I0.mono (by conv => lhs; whnf) ?_
  refine GL.guardT rfl ?_
  refine GL.move I0.mono (by conv => lhs; whnf) ?_
  refine GL.guardT rfl ?_
  refine GL.move I0.mono (by conv => lhs; whnf) ?_
  refine GL.guardF rfl ?_
  refine GL.guardF rfl ?_
  refine GL.guardF rfl ?_
  refine GL.guardF rfl ?_
  refine GL.guardT rfl ?_
  refine GL.pick I0.mono rfl (by conv => lhs; whnf) ?_
  refine GL.guardT rfl ?_
  refine GL.move I0.mono (by conv => lhs; whnf) ?_
  refine GL.guardT rfl ?_
  refine GL.move I0.mono (by conv => lhs; whnf) ?_
  refine GL.guardT rfl ?_
  refine GL.un I0.mono rfl ?_
  refine GL.guardT rfl ?_
  refine GL.move I0.mono (by conv => lhs; whnf) ?_
  refine GL.guardT rfl ?_
  refine GL.move I0.mono (by conv => lhs; whnf) ?_
  refine GL.guardT rfl ?_
  refine GL.bin I0.mono (v := .bool true) (by kernel_rfl) ?_
  refine GL.guardT rfl ?_
  refine GL.pick I0.mono rfl (by conv => lhs; whnf) ?_
  refine GL.guardT rfl ?_
  refine GL.pick I0.mono rfl (by conv => lhs; whnf) ?_
  refine GL.pick I0.mono rfl (by conv => lhs; whnf) ?_
  refine GL.assign I0.mono (by conv => lhs; whnf) ?_
  refine GL.doneF ?_
  refine goOn ?_
  refine Wp.retI ?_
  refine RetX.ret ?_
  refine ⟨_, _, _, _, .cons (.tmp rfl) .nil, .frz (.pure rfl), List.nodup_nil, by simp, ?_⟩
  rfl


theorem right_ok {I : Inst} {c : Int} {l : List Int} {T : Trip} {cost : Int} {ok : Bool} (he : CallsV Try.prog 32 [ei I, .int .i64 c, .sl (em ni l)] (.tup [.agg (nt T), .bool ok])) (h1 : ok = true → cost = T.t2) (h2 : ok = false → cost = 0) : CallsV Try.prog 50 [ei I, .int .i64 c, .sl (em ni l), .int .i64 cost, .bool ok] (.bool true) := by
  cases ok with
  | true => rw [h1 rfl]; exact right_t I c l T he
  | false => rw [h2 rfl]; exact right_f I c l T he

set_option maxRecDepth 100000 in
set_option maxHeartbeats 4000000 in
theorem with_own (l : List Int) (hl : Short l) (k : Nat) (hk : k ≤ l.length) (s : Int) : CallsV Try.prog 54 [.sl (em ni l), .int .i64 (k : Int), .int .i64 s] (.slo 1 (em ni (l.take k ++ [s] ++ l.drop k))) := by
  refine CallsR.intro (I0.sound _) mix Try.func54 rfl rfl (by simp [Try.f54]) (by kernel_rfl) (nb := 0) ?_
  unfold Try.f54
  refine Wp.seqI ?_
  refine Wp.regI I0.mono ?_
  refine GL.assign I0.mono (by conv => lhs; whnf) ?_
  refine GL.doneF ?_
  refine goOn ?_
  refine Wp.seqI ?_
  rcases Nat.eq_zero_or_pos k with hk0 | hk0
  ·skip
   rcases (show 0 < (l.drop k).length ∨ l.drop k = [] by cases l.drop k with | nil => exact .inr rfl | cons a r => exact .inl (by simp)) with hk1 | hk1
   ·skip
    unfold Short at hl
    refine Wp.regD ?_
    refine GL.move I0.mono (by conv => lhs; whnf) ?_
    refine GL.move I0.mono (by conv => lhs; whnf) ?_
    refine GL.sliceTo I0.mono (sz := 1) rfl rfl rfl rfl (by intro e he; obtain ⟨a, -, rfl⟩ := List.mem_map.1 he; rfl) (by omega) (by omega) (by with_reducible exact Int.toNat_natCast _) ?_
    refine GL.appendNil I0.mono rfl rfl rfl rfl (show LV.sl (em ni (l.take k)) = .sl [] by rw [hk0]; rfl) ?_
    refine GL.move I0.mono (by conv => lhs; whnf) ?_
    refine GL.buildSlice0 I0.mono (sz := 1) (z := [LV.int .i64 0]) (es := em ni [s]) rfl rfl rfl rfl (by decide) (by decide) (by decide) (FrzP.cons (S := []) (T := []) (Frz.aggc (S := []) (T := []) (Frz.pure rfl) Frz.aggn) rfl (by decide) rfl (FrzP.nil)) rfl ?_
    intro g12
    refine GL.appendN I0.mono (es := em ni [s]) (sz := 1) (z := [.int .i64 0]) (n := 1) rfl rfl rfl rfl rfl (by decide) (Nat.le_of_ble_eq_true rfl) rfl (by exact SrcR.own (x := ⟨g12, false, .slc, 1, em ni [s]⟩) rfl rfl rfl (Nat.le_refl 1)) rfl (by decide) (by simp [em, ni, oneC]) (by decide) ?_
    intro g13
    refine GL.move I0.mono (by conv => lhs; whnf) ?_
    refine GL.move I0.mono (by conv => lhs; whnf) ?_
    refine GL.sliceFrom I0.mono (sz := 1) rfl rfl rfl rfl (by intro e he; obtain ⟨a, -, rfl⟩ := List.mem_map.1 he; rfl) (by omega) (by omega) (by with_reducible exact Int.toNat_natCast _) ?_
    refine GL.appendO I0.mono (f := ni) (l := [s]) (l2 := l.drop k) (n2 := (l.drop k).length) (sz := 1) (z := [.int .i64 0]) rfl rfl rfl rfl rfl (by decide) (Nat.le_of_ble_eq_true rfl) rfl rfl rfl rfl rfl rfl rfl rfl rfl (fun _ => rfl) (fun _ => rfl) rfl (by exact hk1) (by (rw [List.length_drop]; omega)) ?_
    refine GL.assign I0.mono (by conv => lhs; whnf) ?_
    refine GL.doneT (by kernel_rfl) ?_
    refine goOn ?_
    refine Wp.retI ?_
    refine RetX.ret ?_
    refine ⟨_, _, _, _, .cons (.tmp rfl) .nil, (Exp.slo rfl rfl rfl rfl (by (simp [em_len]; omega))), (by decide), by simp, ?_⟩
    (rw [hk0]; rfl)
   ·skip
    unfold Short at hl
    refine Wp.regD ?_
    refine GL.move I0.mono (by conv => lhs; whnf) ?_
    refine GL.move I0.mono (by conv => lhs; whnf) ?_
    refine GL.sliceTo I0.mono (sz := 1) rfl rfl rfl rfl (by intro e he; obtain ⟨a, -, rfl⟩ := List.mem_map.1 he; rfl) (by omega) (by omega) (by with_reducible exact Int.toNat_natCast _) ?_
    refine GL.appendNil I0.mono rfl rfl rfl rfl (show LV.sl (em ni (l.take k)) = .sl [] by rw [hk0]; rfl) ?_
    refine GL.move I0.mono (by conv => lhs; whnf) ?_
    refine GL.buildSlice0 I0.mono (sz := 1) (z := [LV.int .i64 0]) (es := em ni [s]) rfl rfl rfl rfl (by decide) (by decide) (by decide) (FrzP.cons (S := []) (T := []) (Frz.aggc (S := []) (T := []) (Frz.pure rfl) Frz.aggn) rfl (by decide) rfl (FrzP.nil)) rfl ?_
    intro g12
    refine GL.appendN I0.mono (es := em ni [s]) (sz := 1) (z := [.int .i64 0]) (n := 1) rfl rfl rfl rfl rfl (by decide) (Nat.le_of_ble_eq_true rfl) rfl (by exact SrcR.own (x := ⟨g12, false, .slc, 1, em ni [s]⟩) rfl rfl rfl (Nat.le_refl 1)) rfl (by decide) (by simp [em, ni, oneC]) (by decide) ?_
    intro g13
    refine GL.move I0.mono (by conv => lhs; whnf) ?_
    refine GL.move I0.mono (by conv => lhs; whnf) ?_
    refine GL.sliceFrom I0.mono (sz := 1) rfl rfl rfl rfl (by intro e he; obtain ⟨a, -, rfl⟩ := List.mem_map.1 he; rfl) (by omega) (by omega) (by with_reducible exact Int.toNat_natCast _) ?_
    refine GL.appendE I0.mono rfl rfl rfl rfl rfl rfl (show LV.sl (em ni (l.drop k)) = .sl [] by rw [hk1]; rfl) ?_
    refine GL.assign I0.mono (by conv => lhs; whnf) ?_
    refine GL.doneT (by kernel_rfl) ?_
    refine goOn ?_
    refine Wp.retI ?_
    refine RetX.ret ?_
    refine ⟨_, _, _, _, .cons (.tmp rfl) .nil, (Exp.slo rfl rfl rfl rfl (by rfl)), (by decide), by simp, ?_⟩
    (rw [hk1, hk0]; rfl)
  ·skip
   rcases (show 0 < (l.drop k).length ∨ l.drop k = [] by cases l.drop k with | nil => exact .inr rfl | cons a r => exact .inl (by simp)) with hk1 | hk1
   ·skip
    unfold Short at hl
    refine Wp.regD ?_
    refine GL.move I0.mono (by conv => lhs; whnf) ?_
    refine GL.move I0.mono (by conv => lhs; whnf) ?_
    refine GL.sliceTo I0.mono (sz := 1) rfl rfl rfl rfl (by intro e he; obtain ⟨a, -, rfl⟩ := List.mem_map.1 he; rfl) (by omega) (by omega) (by with_reducible exact Int.toNat_natCast _) ?_
    refine GL.appendSl I0.mono (f := ni) (l := l.take k) (sz := 1) (z := [.int .i64 0]) rfl rfl rfl rfl rfl (by decide) (Nat.le_of_ble_eq_true rfl) rfl rfl (fun _ => rfl) (fun _ => rfl) (by rw [List.length_take]; omega) (by rw [List.length_take]; omega) ?_
    intro g10
    refine GL.move I0.mono (by conv => lhs; whnf) ?_
    refine GL.buildSlice0 I0.mono (sz := 1) (z := [LV.int .i64 0]) (es := em ni [s]) rfl rfl rfl rfl (by decide) (by decide) (by decide) (FrzP.cons (S := []) (T := []) (Frz.aggc (S := []) (T := []) (Frz.pure rfl) Frz.aggn) rfl (by decide) rfl (FrzP.nil)) rfl ?_
    intro g12
    refine GL.append1 I0.mono (f := ni) (l := l.take k) (v := s) (sz := 1) (z := [.int .i64 0]) rfl rfl rfl rfl rfl (by decide) (Nat.le_of_ble_eq_true rfl) rfl rfl rfl rfl rfl rfl rfl rfl rfl rfl rfl rfl rfl rfl rfl rfl (by rw [List.length_take]; omega) ?_
    refine GL.move I0.mono (by conv => lhs; whnf) ?_
    refine GL.move I0.mono (by conv => lhs; whnf) ?_
    refine GL.sliceFrom I0.mono (sz := 1) rfl rfl rfl rfl (by intro e he; obtain ⟨a, -, rfl⟩ := List.mem_map.1 he; rfl) (by omega) (by omega) (by with_reducible exact Int.toNat_natCast _) ?_
    refine GL.appendO I0.mono (f := ni) (l := l.take k ++ [s]) (l2 := l.drop k) (n2 := (l.drop k).length) (sz := 1) (z := [.int .i64 0]) rfl rfl rfl rfl rfl (by decide) (Nat.le_of_ble_eq_true rfl) rfl rfl rfl rfl rfl rfl rfl (by rw [List.length_append]; rfl) rfl (fun _ => rfl) (fun _ => rfl) rfl (by exact hk1) (by (rw [List.length_take, List.length_drop]; omega)) ?_
    refine GL.assign I0.mono (by conv => lhs; whnf) ?_
    refine GL.doneT (by kernel_rfl) ?_
    refine goOn ?_
    refine Wp.retI ?_
    refine RetX.ret ?_
    refine ⟨_, _, _, _, .cons (.tmp rfl) .nil, (Exp.slo rfl rfl rfl rfl (by (simp [em_len]; omega))), (by decide), by simp, ?_⟩
    rfl
   ·skip
    unfold Short at hl
    refine Wp.regD ?_
    refine GL.move I0.mono (by conv => lhs; whnf) ?_
    refine GL.move I0.mono (by conv => lhs; whnf) ?_
    refine GL.sliceTo I0.mono (sz := 1) rfl rfl rfl rfl (by intro e he; obtain ⟨a, -, rfl⟩ := List.mem_map.1 he; rfl) (by omega) (by omega) (by with_reducible exact Int.toNat_natCast _) ?_
    refine GL.appendSl I0.mono (f := ni) (l := l.take k) (sz := 1) (z := [.int .i64 0]) rfl rfl rfl rfl rfl (by decide) (Nat.le_of_ble_eq_true rfl) rfl rfl (fun _ => rfl) (fun _ => rfl) (by rw [List.length_take]; omega) (by rw [List.length_take]; omega) ?_
    intro g10
    refine GL.move I0.mono (by conv => lhs; whnf) ?_
    refine GL.buildSlice0 I0.mono (sz := 1) (z := [LV.int .i64 0]) (es := em ni [s]) rfl rfl rfl rfl (by decide) (by decide) (by decide) (FrzP.cons (S := []) (T := []) (Frz.aggc (S := []) (T := []) (Frz.pure rfl) Frz.aggn) rfl (by decide) rfl (FrzP.nil)) rfl ?_
    intro g12
    refine GL.append1 I0.mono (f := ni) (l := l.take k) (v := s) (sz := 1) (z := [.int .i64 0]) rfl rfl rfl rfl rfl (by decide) (Nat.le_of_ble_eq_true rfl) rfl rfl rfl rfl rfl rfl rfl rfl rfl rfl rfl rfl rfl rfl rfl rfl (by rw [List.length_take]; omega) ?_
    refine GL.move I0.mono (by conv => lhs; whnf) ?_
    refine GL.move I0.mono (by conv => lhs; whnf) ?_
    refine GL.sliceFrom I0.mono (sz := 1) rfl rfl rfl rfl (by intro e he; obtain ⟨a, -, rfl⟩ := List.mem_map.1 he; rfl) (by omega) (by omega) (by with_reducible exact Int.toNat_natCast _) ?_
    refine GL.appendE I0.mono rfl rfl rfl rfl rfl rfl (show LV.sl (em ni (l.drop k)) = .sl [] by rw [hk1]; rfl) ?_
    refine GL.assign I0.mono (by conv => lhs; whnf) ?_
    refine GL.doneT (by kernel_rfl) ?_
    refine goOn ?_
    refine Wp.retI ?_
    refine RetX.ret ?_
    refine ⟨_, _, _, _, .cons (.tmp rfl) .nil, (Exp.slo rfl rfl rfl rfl (by (simp [em_len]; done))), (by decide), by simp, ?_⟩
    (rw [hk1, List.append_nil]; rfl)


theorem with_ok (l : List Int) (hl : Short l) (k : Nat) (hk : k ≤ l.length) (s : Int) : CallsV Try.prog 54 [.sl (em ni l), .int .i64 (k : Int), .int .i64 s] (.sl (em ni (l.take k ++ [s] ++ l.drop k))) := (with_own l hl k hk s).freeze rfl

end Go.Proofs.Ytpepcfombibpeaa
