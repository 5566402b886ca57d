/- The example of the tables that are kept, walked. -/
import Derived.Test.YtpepcfombibpeaaGb
import Derived.Test.YtpepcfombibpeaaMvC
import Derived.KernelRfl
set_option linter.unusedVariables false
set_option linter.unusedSimpArgs false
namespace Go.Proofs.Ytpepcfombibpeaa
open Go.Proofs Mv


def wake6 : Inst := ⟨[⟨0, 0, 5⟩], [], [], [[0]]⟩
theorem short_w6 : wake6.Short := ⟨by unfold Short; decide, by unfold Short; decide, by unfold Short; decide, by unfold Short; decide, by show ∀ r ∈ _, List.length r < 1073741824; decide⟩
theorem tb_w6 : Tb wake6 := ⟨short_w6, by decide, fun n => by show (0 : Int) ≤ 1000000; decide⟩
theorem w6_new : CallsV Try.prog 48 [ei wake6, .int .i64 0, .sl []] (.ptro (tabL wake6 0 0 [⟨true, 0, 0, 0, 0, 0, 0⟩] [⟨true, 0, 5, 0, 0, 0, 0, 0⟩])) := by
  have := tnew_ok wake6 tb_w6 0 [] (by unfold Short; decide)
  rwa [show heads wake6 0 [] = [⟨true, 0, 0, 0, 0, 0, 0⟩] by decide +kernel, show tails wake6 0 [] = [⟨true, 0, 5, 0, 0, 0, 0, 0⟩] by decide +kernel] at this
theorem w6_whole : CallsV Try.prog 51 [tabP wake6 0 0 [⟨true, 0, 0, 0, 0, 0, 0⟩] [⟨true, 0, 5, 0, 0, 0, 0, 0⟩]] (.tup [.int .i64 0, .bool true]) := by
  have := twhole_ok wake6 0 0 [⟨true, 0, 0, 0, 0, 0, 0⟩] [⟨true, 0, 5, 0, 0, 0, 0, 0⟩] short_w6
  rwa [show meet wake6 0 (headAt [⟨true, 0, 0, 0, 0, 0, 0⟩] 0) (tailAt [⟨true, 0, 5, 0, 0, 0, 0, 0⟩] 0) = some 0 by decide +kernel] at this

set_option maxRecDepth 100000 in
set_option maxHeartbeats 4000000 in
theorem wakes6_ok : CallsV Try.prog 52 [] (.bool true) := by
  refine CallsR.intro (I0.sound _) mix Try.func52 rfl rfl (by simp [Try.f52]) (by kernel_rfl) (nb := 0) ?_
  unfold Try.f52
  refine Wp.seqI ?_
  refine Wp.regI I0.mono ?_
  refine GL.assign I0.mono (by conv => lhs; whnf) ?_
  refine GL.doneF ?_
  refine goOn ?_
  refine Wp.seqI ?_
  refine Wp.regI I0.mono ?_
  refine GL.buildS I0.mono (z := [LV.int .i64 0, LV.int .i64 0, LV.int .i64 0]) (cs := [_, _, _]) (n := 3) rfl rfl rfl (EvS.cons (by conv => lhs; whnf) (EvS.nil)) rfl rfl ?_
  refine GL.buildSlice0 I0.mono (sz := 3) (z := [LV.int .i64 0, LV.int .i64 0, LV.int .i64 0]) (es := em nc [⟨0, 0, 5⟩]) rfl rfl rfl rfl (by decide) (by decide) (by decide) (FrzP.cons (S := []) (T := []) (Frz.pures rfl) rfl (by decide) rfl (FrzP.nil)) rfl ?_
  intro g5
  refine GL.buildSlice0 I0.mono (sz := 1) (z := [LV.int .i64 0]) (es := em ni [0]) rfl rfl rfl rfl (by decide) (by decide) (by decide) (FrzP.cons (S := []) (T := []) (Frz.aggc (S := []) (T := []) (Frz.pure rfl) Frz.aggn) rfl (by decide) rfl (FrzP.nil)) rfl ?_
  intro g6
  refine GL.buildSliceM I0.mono (sz := 1) (z := [LV.nils]) (es := em nr [[0]]) rfl rfl rfl rfl (by decide) (by decide) (by decide) (FrzP.cons (Frz.aggc (by exact Frz.whole rfl rfl rfl rfl (by exact em_len _ _)) Frz.aggn) rfl (by decide) rfl (FrzP.nil)) rfl rfl ?_
  intro g7
  refine GL.buildS I0.mono (z := [LV.nils, LV.nils, LV.nils, LV.nils]) (cs := [_, _, _, _]) (n := 4) rfl rfl rfl (EvS.cons (by conv => lhs; whnf) (EvS.cons (by conv => lhs; whnf) (EvS.nil))) rfl rfl ?_
  refine GL.callX I0.mono (W := [320, 448]) rfl (Frz.aggc (Frz.aggc (by exact Frz.whole rfl rfl rfl rfl (by exact em_len _ _)) (Frz.aggc (by exact Frz.nils) (Frz.aggc (by exact Frz.nils) (Frz.aggc (by exact Frz.whole rfl rfl rfl rfl (by exact em_len _ _)) Frz.aggn)))) (Frz.aggc (Frz.pure rfl) (Frz.aggc Frz.nils Frz.aggn))) (w6_new) rfl rfl rfl (imp_tab _ _ _ _ _ _ _) ?_
  refine GL.assign I0.mono (by conv => lhs; whnf) ?_
  refine GL.doneF ?_
  refine goOn ?_
  refine Wp.seqI ?_
  refine Wp.seqI ?_
  refine Wp.regI I0.mono ?_
  refine GL.move I0.mono (by conv => lhs; whnf) ?_
  refine GL.nilEq I0.mono rfl rfl rfl rfl rfl ?_
  refine GL.doneF ?_
  refine goOn ?_
  refine Wp.condF rfl ?_
  refine Wp.skipI ?_
  refine goOn ?_
  refine Wp.seqI ?_
  refine Wp.regI I0.mono ?_
  refine GL.move I0.mono (by conv => lhs; whnf) ?_
  refine GL.callFl I0.mono rfl (Frz.aggc (Frz.ref rfl rfl rfl rfl (Frz.pures rfl)) Frz.aggn) (w6_whole) (flat_ib _ _) rfl rfl ?_
  refine GL.move I0.mono (by conv => lhs; whnf) ?_
  refine GL.extract I0.mono rfl rfl ?_
  refine GL.extract I0.mono rfl rfl ?_
  refine GL.assign I0.mono (by conv => lhs; whnf) ?_
  refine GL.assign I0.mono (by conv => lhs; whnf) ?_
  refine GL.doneF ?_
  refine goOn ?_
  refine Wp.seqI ?_
  refine Wp.regI I0.mono ?_
  refine GL.move I0.mono (by conv => lhs; whnf) ?_
  refine GL.move I0.mono (by conv => lhs; whnf) ?_
  refine GL.guardT rfl ?_
  refine GL.move I0.mono (by conv => lhs; whnf) ?_
  refine GL.guardT rfl ?_
  refine GL.bin I0.mono rfl ?_
  refine GL.pick I0.mono rfl (by conv => lhs; whnf) ?_
  refine GL.move I0.mono (by conv => lhs; whnf) ?_
  refine GL.guardT rfl ?_
  refine GL.move I0.mono (by conv => lhs; whnf) ?_
  refine GL.guardT rfl ?_
  refine GL.callFl I0.mono rfl (Frz.aggc (Frz.ref rfl rfl rfl rfl (Frz.pures rfl)) Frz.aggn) (tlen_ok _ _ _ _ _) (FlatI.sca rfl) rfl rfl ?_
  refine GL.guardT rfl ?_
  refine GL.bin I0.mono rfl ?_
  refine GL.pick I0.mono rfl (by conv => lhs; whnf) ?_
  refine GL.assign I0.mono (by conv => lhs; whnf) ?_
  refine GL.doneF ?_
  refine goOn ?_
  refine Wp.retI ?_
  refine RetX.ret ?_
  refine ⟨_, _, _, _, .cons (.tmp rfl) .nil, .frz (.pure rfl), List.nodup_nil, by simp, ?_⟩
  rfl

end Go.Proofs.Ytpepcfombibpeaa
