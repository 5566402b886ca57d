/- The hand-made instances of the first laws, walked. -/
import Derived.Test.YtpepcfombibpeaaFb
import Derived.KernelRfl
set_option linter.unusedVariables false
set_option linter.unusedSimpArgs false
namespace Go.Proofs.Ytpepcfombibpeaa
open Go.Proofs Mv



def cars1 : List Car := [⟨6, 10, 60⟩, ⟨3, 0, 30⟩]
def stops1 : List Stop := [⟨3, 0, 40, 2⟩, ⟨-1, 30, 35, 0⟩, ⟨4, 0, 100, 5⟩, ⟨-4, 20, 100, 0⟩]
def pairs1 : List Two := [⟨3, 4⟩]
def travel1 : List (List Int) := [[0, 4, 6, 8, 3], [5, 0, 2, 9, 1], [7, 3, 0, 2, 2], [1, 1, 1, 0, 5], [2, 2, 2, 2, 0]]
def inst1 : Inst := ⟨cars1, stops1, pairs1, travel1⟩
theorem short1 : inst1.Short := ⟨by unfold Short; decide, by unfold Short; decide, by unfold Short; decide, by unfold Short; decide, by show ∀ r ∈ _, List.length r < 1073741824; decide⟩
def inst2 : Inst := ⟨[⟨0, 2, 5⟩], [], [], [[0]]⟩
theorem short2 : inst2.Short := ⟨by unfold Short; decide, by unfold Short; decide, by unfold Short; decide, by unfold Short; decide, by show ∀ r ∈ _, List.length r < 1073741824; decide⟩

set_option maxRecDepth 100000 in
set_option maxHeartbeats 4000000 in
theorem hand_ok : CallsV Try.prog 24 [] (ei inst1) := by
  refine CallsR.intro (I0.sound _) mix Try.func24 rfl rfl (by simp [Try.f24]) (by kernel_rfl) (nb := 0) ?_
  unfold Try.f24
  refine Wp.seqI ?_
  refine Wp.regI I0.mono ?_
  refine GL.alloc I0.mono (cs := [LV.nils, LV.nils, LV.nils, LV.nils]) rfl rfl ?_
  intro g0
  refine GL.doneF ?_
  refine goOn ?_
  refine Wp.seqI ?_
  refine Wp.regI I0.mono ?_
  refine GL.buildS I0.mono (z := [LV.int .i64 0, LV.int .i64 0, LV.int .i64 0]) (cs := [_, _, _]) (n := 3) rfl rfl rfl (EvS.cons (by conv => lhs; whnf) (EvS.cons (by conv => lhs; whnf) (EvS.cons (by conv => lhs; whnf) (EvS.nil)))) rfl rfl ?_
  refine GL.buildS I0.mono (z := [LV.int .i64 0, LV.int .i64 0, LV.int .i64 0]) (cs := [_, _, _]) (n := 3) rfl rfl rfl (EvS.cons (by conv => lhs; whnf) (EvS.cons (by conv => lhs; whnf) (EvS.nil))) rfl rfl ?_
  refine GL.buildSlice0 I0.mono (sz := 3) (z := [LV.int .i64 0, LV.int .i64 0, LV.int .i64 0]) (es := em nc cars1) rfl rfl rfl rfl (by decide) (by decide) (by decide) (FrzP.cons (S := []) (T := []) (Frz.pures rfl) rfl (by decide) rfl (FrzP.cons (S := []) (T := []) (Frz.pures rfl) rfl (by decide) rfl (FrzP.nil))) rfl ?_
  intro g3
  refine GL.buildS I0.mono (z := [LV.int .i64 0, LV.int .i64 0, LV.int .i64 0, LV.int .i64 0]) (cs := [_, _, _, _]) (n := 4) rfl rfl rfl (EvS.cons (by conv => lhs; whnf) (EvS.cons (by conv => lhs; whnf) (EvS.cons (by conv => lhs; whnf) (EvS.nil)))) rfl rfl ?_
  refine GL.buildS I0.mono (z := [LV.int .i64 0, LV.int .i64 0, LV.int .i64 0, LV.int .i64 0]) (cs := [_, _, _, _]) (n := 4) rfl rfl rfl (EvS.cons (by conv => lhs; whnf) (EvS.cons (by conv => lhs; whnf) (EvS.cons (by conv => lhs; whnf) (EvS.nil)))) rfl rfl ?_
  refine GL.buildS I0.mono (z := [LV.int .i64 0, LV.int .i64 0, LV.int .i64 0, LV.int .i64 0]) (cs := [_, _, _, _]) (n := 4) rfl rfl rfl (EvS.cons (by conv => lhs; whnf) (EvS.cons (by conv => lhs; whnf) (EvS.cons (by conv => lhs; whnf) (EvS.nil)))) rfl rfl ?_
  refine GL.buildS I0.mono (z := [LV.int .i64 0, LV.int .i64 0, LV.int .i64 0, LV.int .i64 0]) (cs := [_, _, _, _]) (n := 4) rfl rfl rfl (EvS.cons (by conv => lhs; whnf) (EvS.cons (by conv => lhs; whnf) (EvS.cons (by conv => lhs; whnf) (EvS.nil)))) rfl rfl ?_
  refine GL.buildSlice0 I0.mono (sz := 4) (z := [LV.int .i64 0, LV.int .i64 0, LV.int .i64 0, LV.int .i64 0]) (es := em ns stops1) rfl rfl rfl rfl (by decide) (by decide) (by decide) (FrzP.cons (S := []) (T := []) (Frz.pures rfl) rfl (by decide) rfl (FrzP.cons (S := []) (T := []) (Frz.pures rfl) rfl (by decide) rfl (FrzP.cons (S := []) (T := []) (Frz.pures rfl) rfl (by decide) rfl (FrzP.cons (S := []) (T := []) (Frz.pures rfl) rfl (by decide) rfl (FrzP.nil))))) rfl ?_
  intro g8
  refine GL.buildS I0.mono (z := [LV.int .i64 0, LV.int .i64 0]) (cs := [_, _]) (n := 2) rfl rfl rfl (EvS.cons (by conv => lhs; whnf) (EvS.cons (by conv => lhs; whnf) (EvS.nil))) rfl rfl ?_
  refine GL.buildSlice0 I0.mono (sz := 2) (z := [LV.int .i64 0, LV.int .i64 0]) (es := em np pairs1) rfl rfl rfl rfl (by decide) (by decide) (by decide) (FrzP.cons (S := []) (T := []) (Frz.pures rfl) rfl (by decide) rfl (FrzP.nil)) rfl ?_
  intro g10
  refine GL.buildSlice0 I0.mono (sz := 1) (z := [LV.int .i64 0]) (es := em ni [0, 4, 6, 8, 3]) rfl rfl rfl rfl (by decide) (by decide) (by decide) (FrzP.cons (S := []) (T := []) (Frz.aggc (S := []) (T := []) (Frz.pure rfl) Frz.aggn) rfl (by decide) rfl (FrzP.cons (S := []) (T := []) (Frz.aggc (S := []) (T := []) (Frz.pure rfl) Frz.aggn) rfl (by decide) rfl (FrzP.cons (S := []) (T := []) (Frz.aggc (S := []) (T := []) (Frz.pure rfl) Frz.aggn) rfl (by decide) rfl (FrzP.cons (S := []) (T := []) (Frz.aggc (S := []) (T := []) (Frz.pure rfl) Frz.aggn) rfl (by decide) rfl (FrzP.cons (S := []) (T := []) (Frz.aggc (S := []) (T := []) (Frz.pure rfl) Frz.aggn) rfl (by decide) rfl (FrzP.nil)))))) rfl ?_
  intro g11
  refine GL.buildSlice0 I0.mono (sz := 1) (z := [LV.int .i64 0]) (es := em ni [5, 0, 2, 9, 1]) rfl rfl rfl rfl (by decide) (by decide) (by decide) (FrzP.cons (S := []) (T := []) (Frz.aggc (S := []) (T := []) (Frz.pure rfl) Frz.aggn) rfl (by decide) rfl (FrzP.cons (S := []) (T := []) (Frz.aggc (S := []) (T := []) (Frz.pure rfl) Frz.aggn) rfl (by decide) rfl (FrzP.cons (S := []) (T := []) (Frz.aggc (S := []) (T := []) (Frz.pure rfl) Frz.aggn) rfl (by decide) rfl (FrzP.cons (S := []) (T := []) (Frz.aggc (S := []) (T := []) (Frz.pure rfl) Frz.aggn) rfl (by decide) rfl (FrzP.cons (S := []) (T := []) (Frz.aggc (S := []) (T := []) (Frz.pure rfl) Frz.aggn) rfl (by decide) rfl (FrzP.nil)))))) rfl ?_
  intro g12
  refine GL.buildSlice0 I0.mono (sz := 1) (z := [LV.int .i64 0]) (es := em ni [7, 3, 0, 2, 2]) rfl rfl rfl rfl (by decide) (by decide) (by decide) (FrzP.cons (S := []) (T := []) (Frz.aggc (S := []) (T := []) (Frz.pure rfl) Frz.aggn) rfl (by decide) rfl (FrzP.cons (S := []) (T := []) (Frz.aggc (S := []) (T := []) (Frz.pure rfl) Frz.aggn) rfl (by decide) rfl (FrzP.cons (S := []) (T := []) (Frz.aggc (S := []) (T := []) (Frz.pure rfl) Frz.aggn) rfl (by decide) rfl (FrzP.cons (S := []) (T := []) (Frz.aggc (S := []) (T := []) (Frz.pure rfl) Frz.aggn) rfl (by decide) rfl (FrzP.cons (S := []) (T := []) (Frz.aggc (S := []) (T := []) (Frz.pure rfl) Frz.aggn) rfl (by decide) rfl (FrzP.nil)))))) rfl ?_
  intro g13
  refine GL.buildSlice0 I0.mono (sz := 1) (z := [LV.int .i64 0]) (es := em ni [1, 1, 1, 0, 5]) rfl rfl rfl rfl (by decide) (by decide) (by decide) (FrzP.cons (S := []) (T := []) (Frz.aggc (S := []) (T := []) (Frz.pure rfl) Frz.aggn) rfl (by decide) rfl (FrzP.cons (S := []) (T := []) (Frz.aggc (S := []) (T := []) (Frz.pure rfl) Frz.aggn) rfl (by decide) rfl (FrzP.cons (S := []) (T := []) (Frz.aggc (S := []) (T := []) (Frz.pure rfl) Frz.aggn) rfl (by decide) rfl (FrzP.cons (S := []) (T := []) (Frz.aggc (S := []) (T := []) (Frz.pure rfl) Frz.aggn) rfl (by decide) rfl (FrzP.cons (S := []) (T := []) (Frz.aggc (S := []) (T := []) (Frz.pure rfl) Frz.aggn) rfl (by decide) rfl (FrzP.nil)))))) rfl ?_
  intro g14
  refine GL.buildSlice0 I0.mono (sz := 1) (z := [LV.int .i64 0]) (es := em ni [2, 2, 2, 2, 0]) rfl rfl rfl rfl (by decide) (by decide) (by decide) (FrzP.cons (S := []) (T := []) (Frz.aggc (S := []) (T := []) (Frz.pure rfl) Frz.aggn) rfl (by decide) rfl (FrzP.cons (S := []) (T := []) (Frz.aggc (S := []) (T := []) (Frz.pure rfl) Frz.aggn) rfl (by decide) rfl (FrzP.cons (S := []) (T := []) (Frz.aggc (S := []) (T := []) (Frz.pure rfl) Frz.aggn) rfl (by decide) rfl (FrzP.cons (S := []) (T := []) (Frz.aggc (S := []) (T := []) (Frz.pure rfl) Frz.aggn) rfl (by decide) rfl (FrzP.cons (S := []) (T := []) (Frz.aggc (S := []) (T := []) (Frz.pure rfl) Frz.aggn) rfl (by decide) rfl (FrzP.nil)))))) rfl ?_
  intro g15
  refine GL.buildSliceM I0.mono (sz := 1) (z := [LV.nils]) (es := em nr travel1) rfl rfl rfl rfl (by decide) (by decide) (by decide) (FrzP.cons (Frz.aggc (by exact Frz.whole rfl rfl rfl rfl (by exact em_len _ _)) Frz.aggn) rfl (by decide) rfl (FrzP.cons (Frz.aggc (by exact Frz.whole rfl rfl rfl rfl (by exact em_len _ _)) Frz.aggn) rfl (by decide) rfl (FrzP.cons (Frz.aggc (by exact Frz.whole rfl rfl rfl rfl (by exact em_len _ _)) Frz.aggn) rfl (by decide) rfl (FrzP.cons (Frz.aggc (by exact Frz.whole rfl rfl rfl rfl (by exact em_len _ _)) Frz.aggn) rfl (by decide) rfl (FrzP.cons (Frz.aggc (by exact Frz.whole rfl rfl rfl rfl (by exact em_len _ _)) Frz.aggn) rfl (by decide) rfl (FrzP.nil)))))) rfl rfl ?_
  intro g16
  refine GL.buildS I0.mono (z := [LV.nils, LV.nils, LV.nils, LV.nils]) (cs := [_, _, _, _]) (n := 4) rfl rfl rfl (EvS.cons (by conv => lhs; whnf) (EvS.cons (by conv => lhs; whnf) (EvS.cons (by conv => lhs; whnf) (EvS.cons (by conv => lhs; whnf) (EvS.nil))))) rfl rfl ?_
  refine GL.storeW I0.mono (n := 4) rfl rfl rfl rfl rfl rfl rfl (by conv => lhs; whnf) rfl rfl rfl ?_
  refine GL.doneF ?_
  refine goOn ?_
  refine Wp.retI ?_
  refine RetX.ret ?_
  refine ⟨_, _, _, _, .cons (.cellA (n := 4) rfl rfl rfl (by simp) rfl rfl rfl (Nat.le_of_ble_eq_true rfl)) .nil, .frz (Frz.aggc (by exact Frz.whole rfl rfl rfl rfl (by exact em_len _ _)) (Frz.aggc (by exact Frz.whole rfl rfl rfl rfl (by exact em_len _ _)) (Frz.aggc (by exact Frz.whole rfl rfl rfl rfl (by exact em_len _ _)) (Frz.aggc (by exact Frz.whole rfl rfl rfl rfl (by exact em_len _ _)) Frz.aggn)))), List.nodup_nil, by simp, ?_⟩
  rfl

theorem wake_eval : CallsV Try.prog 23 [ei inst2, .int .i64 0, .sl (em ni [])] (tripR (some ⟨[], [], 0, 2⟩)) := eval_ok inst2 short2 0 [] (by unfold Short; decide)

set_option maxRecDepth 100000 in
set_option maxHeartbeats 4000000 in
theorem wakes_ok : CallsV Try.prog 28 [] (.bool true) := by
  refine CallsR.intro (I0.sound _) mix Try.func28 rfl rfl (by simp [Try.f28]) (by kernel_rfl) (nb := 0) ?_
  unfold Try.f28
  refine Wp.seqI ?_
  refine Wp.regI I0.mono ?_
  refine GL.assign I0.mono (by conv => lhs; whnf) ?_
  refine GL.doneF ?_
  refine goOn ?_
  refine Wp.seqI ?_
  refine Wp.regI I0.mono ?_
  refine GL.buildS I0.mono (z := [LV.int .i64 0, LV.int .i64 0, LV.int .i64 0]) (cs := [_, _, _]) (n := 3) rfl rfl rfl (EvS.cons (by conv => lhs; whnf) (EvS.cons (by conv => lhs; whnf) (EvS.nil))) rfl rfl ?_
  refine GL.buildSlice0 I0.mono (sz := 3) (z := [LV.int .i64 0, LV.int .i64 0, LV.int .i64 0]) (es := em nc [⟨0, 2, 5⟩]) rfl rfl rfl rfl (by decide) (by decide) (by decide) (FrzP.cons (S := []) (T := []) (Frz.pures rfl) rfl (by decide) rfl (FrzP.nil)) rfl ?_
  intro g5
  refine GL.buildSlice0 I0.mono (sz := 1) (z := [LV.int .i64 0]) (es := em ni [0]) rfl rfl rfl rfl (by decide) (by decide) (by decide) (FrzP.cons (S := []) (T := []) (Frz.aggc (S := []) (T := []) (Frz.pure rfl) Frz.aggn) rfl (by decide) rfl (FrzP.nil)) rfl ?_
  intro g6
  refine GL.buildSliceM I0.mono (sz := 1) (z := [LV.nils]) (es := em nr [[0]]) rfl rfl rfl rfl (by decide) (by decide) (by decide) (FrzP.cons (Frz.aggc (by exact Frz.whole rfl rfl rfl rfl (by exact em_len _ _)) Frz.aggn) rfl (by decide) rfl (FrzP.nil)) rfl rfl ?_
  intro g7
  refine GL.buildS I0.mono (z := [LV.nils, LV.nils, LV.nils, LV.nils]) (cs := [_, _, _, _]) (n := 4) rfl rfl rfl (EvS.cons (by conv => lhs; whnf) (EvS.cons (by conv => lhs; whnf) (EvS.nil))) rfl rfl ?_
  refine GL.callM0 I0.mono rfl (Frz.aggc (by exact (Frz.aggc (by exact Frz.whole rfl rfl rfl rfl (by exact em_len _ _)) (Frz.aggc (by exact Frz.nils) (Frz.aggc (by exact Frz.nils) (Frz.aggc (by exact Frz.whole rfl rfl rfl rfl (by exact em_len _ _)) Frz.aggn))))) (Frz.aggc (by exact Frz.pure rfl) (Frz.aggc (by exact Frz.nils) (Frz.aggn)))) (wake_eval) rfl rfl (fun _ => rfl) ?_
  refine GL.move I0.mono (by conv => lhs; whnf) ?_
  refine GL.extract I0.mono rfl rfl ?_
  refine GL.extract I0.mono rfl rfl ?_
  refine GL.alloc I0.mono (cs := [LV.nils, LV.nils, LV.int .i64 0, LV.int .i64 0]) rfl rfl ?_
  intro g1
  refine GL.storeW I0.mono (n := 4) rfl rfl rfl rfl rfl rfl rfl (by conv => lhs; whnf) rfl rfl rfl ?_
  refine GL.assign I0.mono (by conv => lhs; whnf) ?_
  refine GL.doneF ?_
  refine goOn ?_
  refine Wp.seqI ?_
  refine Wp.regI I0.mono ?_
  refine GL.move I0.mono (by conv => lhs; whnf) ?_
  refine GL.move I0.mono (by conv => lhs; whnf) ?_
  refine GL.splitAt 13 rfl (fun h13 => ?_) (fun h13 => ?_)
  ·rw [h13]
   skip
   refine GL.guardT rfl ?_
   refine GL.fieldAddr I0.mono (o := 2) rfl rfl rfl rfl (by conv => lhs; whnf) ?_
   refine GL.guardT rfl ?_
   refine GL.load I0.mono rfl rfl rfl rfl (by simp) rfl rfl ?_
   refine GL.guardT rfl ?_
   refine GL.bin I0.mono rfl ?_
   refine GL.pick I0.mono rfl (by conv => lhs; whnf) ?_
   refine GL.move I0.mono (by conv => lhs; whnf) ?_
   refine GL.splitAt 18 rfl (fun h18 => ?_) (fun h18 => ?_)
   ·rw [h18]
    replace h18 := of_decide_eq_true h18
    refine GL.guardT rfl ?_
    refine GL.fieldAddr I0.mono (o := 3) rfl rfl rfl rfl (by conv => lhs; whnf) ?_
    refine GL.guardT rfl ?_
    refine GL.load I0.mono rfl rfl rfl rfl (by simp) rfl rfl ?_
    refine GL.guardT rfl ?_
    refine GL.bin I0.mono rfl ?_
    refine GL.pick I0.mono rfl (by conv => lhs; whnf) ?_
    refine GL.assign I0.mono (by conv => lhs; whnf) ?_
    refine GL.doneF ?_
    refine goOn ?_
    refine Wp.retI ?_
    refine RetX.ret ?_
    refine ⟨_, _, _, _, .cons (.tmp rfl) .nil, .frz (.pure rfl), List.nodup_nil, by simp, ?_⟩
    rfl
   ·rw [h18]
    replace h18 := of_decide_eq_false h18
    exact absurd h18 (by decide)
  ·rw [h13]
   skip
   exact absurd h13 (by decide)

end Go.Proofs.Ytpepcfombibpeaa
