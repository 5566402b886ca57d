/- The law of the forms of a table that is kept, walked. -/
import Derived.Test.YtpepcfombibpeaaGc
import Derived.KernelRfl
set_option linter.unusedVariables false
set_option linter.unusedSimpArgs false
namespace Go.Proofs.Ytpepcfombibpeaa
open Go.Proofs Mv


def inst6 : Inst := ⟨[⟨3, 0, 20⟩], [⟨2, 0, 9, 0⟩, ⟨1, 0, 9, 0⟩, ⟨1, 15, 15, 0⟩], [], [[0, 2, 3, 5], [2, 0, 4, 1], [3, 4, 0, 9], [5, 1, 9, 0]]⟩
theorem short6 : inst6.Short := ⟨by unfold Short; decide, by unfold Short; decide, by unfold Short; decide, by unfold Short; decide, by show ∀ r ∈ _, List.length r < 1073741824; decide⟩
theorem tb6 : Tb inst6 := ⟨short6, by decide, fun n => by show (0 : Int) ≤ 1000000; decide⟩
def H6 : List Head := heads inst6 0 [1]
def T6 : List Tail := tails inst6 0 [1]
def H6b : List Head := heads inst6 0 [2, 3]
def T6b : List Tail := tails inst6 0 [2, 3]
theorem new6 : CallsV Try.prog 48 [ei inst6, .int .i64 0, .sl (em ni [1])] (.ptro (tabL inst6 0 1 H6 T6)) := tnew_ok inst6 tb6 0 [1] (by unfold Short; decide)
theorem new6b : CallsV Try.prog 48 [ei inst6, .int .i64 0, .sl (em ni [2, 3])] (.ptro (tabL inst6 0 2 H6b T6b)) := tnew_ok inst6 tb6 0 [2, 3] (by unfold Short; decide)
theorem ins6 {k s : Int} {o : Option Int} (e : meet inst6 0 (extend inst6 0 (headAt H6 k) s) (tailAt T6 k) = o) : CallsV Try.prog 53 [tabP inst6 0 1 H6 T6, .int .i64 k, .int .i64 s] (.tup [.int .i64 (o.getD 0), .bool o.isSome]) := e ▸ tinsert_ok inst6 0 1 H6 T6 tb6 k s
theorem rem6 {k : Int} {o : Option Int} (e : meet inst6 0 (headAt H6 k) (tailAt T6 (wadd k 1)) = o) : CallsV Try.prog 57 [tabP inst6 0 1 H6 T6, .int .i64 k] (.tup [.int .i64 (o.getD 0), .bool o.isSome]) := e ▸ tremove_ok inst6 0 1 H6 T6 short6 k
theorem who6 {H : List Head} {T : List Tail} {n : Int} {o : Option Int} (e : meet inst6 0 (headAt H n) (tailAt T n) = o) : CallsV Try.prog 51 [tabP inst6 0 n H T] (.tup [.int .i64 (o.getD 0), .bool o.isSome]) := e ▸ twhole_ok inst6 0 n H T short6
theorem cro6 {k q : Int} {o : Option Int} (e : meet inst6 0 (headAt H6 k) (tailAt T6b q) = o) : CallsV Try.prog 49 [tabP inst6 0 1 H6 T6, .int .i64 k, tabP inst6 0 2 H6b T6b, .int .i64 q] (.tup [.int .i64 (o.getD 0), .bool o.isSome]) := e ▸ tcross_ok inst6 0 1 H6 T6 short6 inst6 0 2 H6b T6b k q
theorem meet_nt {i : Inst} {c : Int} {h : Head} : meet i c h zeroTl = none := by
  rw [meet, if_neg]
  rintro ⟨-, -, h, -⟩
  cases h
theorem out6 {k : Int} (hk : 2 ≤ k) : meet inst6 0 (extend inst6 0 (headAt H6 k) 2) (tailAt T6 k) = none := by
  have e : tailAt T6 k = zeroTl := by
    rw [tailAt, if_pos]
    right
    rw [show (T6.length : Int) = 2 by decide +kernel]
    omega
  rw [e, meet_nt]

set_option maxRecDepth 100000 in
set_option maxHeartbeats 4000000 in
theorem law_FitsForms (n : Int) : CallsV Try.prog 18 [.int .i64 n] (.bool true) := by
  refine CallsR.intro (I0.sound _) mix Try.func18 rfl rfl (by simp [Try.f18]) (by kernel_rfl) (nb := 0) ?_
  unfold Try.f18
  refine Wp.seqI ?_
  refine Wp.regI I0.mono ?_
  refine GL.assign I0.mono (by conv => lhs; whnf) ?_
  refine GL.doneF ?_
  refine goOn ?_
  refine Wp.seqI ?_
  refine Wp.regI I0.mono ?_
  refine GL.buildS I0.mono (z := [LV.int .i64 0, LV.int .i64 0, LV.int .i64 0]) (cs := [_, _, _]) (n := 3) rfl rfl rfl (EvS.cons (by conv => lhs; whnf) (EvS.cons (by conv => lhs; whnf) (EvS.nil))) rfl rfl ?_
  refine GL.buildSlice0 I0.mono (sz := 3) (z := [LV.int .i64 0, LV.int .i64 0, LV.int .i64 0]) (es := em nc [⟨3, 0, 20⟩]) rfl rfl rfl rfl (by decide) (by decide) (by decide) (FrzP.cons (S := []) (T := []) (Frz.pures rfl) rfl (by decide) rfl (FrzP.nil)) rfl ?_
  intro g27
  refine GL.buildS I0.mono (z := [LV.int .i64 0, LV.int .i64 0, LV.int .i64 0, LV.int .i64 0]) (cs := [_, _, _, _]) (n := 4) rfl rfl rfl (EvS.cons (by conv => lhs; whnf) (EvS.cons (by conv => lhs; whnf) (EvS.nil))) rfl rfl ?_
  refine GL.buildS I0.mono (z := [LV.int .i64 0, LV.int .i64 0, LV.int .i64 0, LV.int .i64 0]) (cs := [_, _, _, _]) (n := 4) rfl rfl rfl (EvS.cons (by conv => lhs; whnf) (EvS.cons (by conv => lhs; whnf) (EvS.nil))) rfl rfl ?_
  refine GL.buildS I0.mono (z := [LV.int .i64 0, LV.int .i64 0, LV.int .i64 0, LV.int .i64 0]) (cs := [_, _, _, _]) (n := 4) rfl rfl rfl (EvS.cons (by conv => lhs; whnf) (EvS.cons (by conv => lhs; whnf) (EvS.cons (by conv => lhs; whnf) (EvS.nil)))) rfl rfl ?_
  refine GL.buildSlice0 I0.mono (sz := 4) (z := [LV.int .i64 0, LV.int .i64 0, LV.int .i64 0, LV.int .i64 0]) (es := em ns [⟨2, 0, 9, 0⟩, ⟨1, 0, 9, 0⟩, ⟨1, 15, 15, 0⟩]) rfl rfl rfl rfl (by decide) (by decide) (by decide) (FrzP.cons (S := []) (T := []) (Frz.pures rfl) rfl (by decide) rfl (FrzP.cons (S := []) (T := []) (Frz.pures rfl) rfl (by decide) rfl (FrzP.cons (S := []) (T := []) (Frz.pures rfl) rfl (by decide) rfl (FrzP.nil)))) rfl ?_
  intro g31
  refine GL.buildSlice0 I0.mono (sz := 1) (z := [LV.int .i64 0]) (es := em ni [0, 2, 3, 5]) rfl rfl rfl rfl (by decide) (by decide) (by decide) (FrzP.cons (S := []) (T := []) (Frz.aggc (S := []) (T := []) (Frz.pure rfl) Frz.aggn) rfl (by decide) rfl (FrzP.cons (S := []) (T := []) (Frz.aggc (S := []) (T := []) (Frz.pure rfl) Frz.aggn) rfl (by decide) rfl (FrzP.cons (S := []) (T := []) (Frz.aggc (S := []) (T := []) (Frz.pure rfl) Frz.aggn) rfl (by decide) rfl (FrzP.cons (S := []) (T := []) (Frz.aggc (S := []) (T := []) (Frz.pure rfl) Frz.aggn) rfl (by decide) rfl (FrzP.nil))))) rfl ?_
  intro g32
  refine GL.buildSlice0 I0.mono (sz := 1) (z := [LV.int .i64 0]) (es := em ni [2, 0, 4, 1]) rfl rfl rfl rfl (by decide) (by decide) (by decide) (FrzP.cons (S := []) (T := []) (Frz.aggc (S := []) (T := []) (Frz.pure rfl) Frz.aggn) rfl (by decide) rfl (FrzP.cons (S := []) (T := []) (Frz.aggc (S := []) (T := []) (Frz.pure rfl) Frz.aggn) rfl (by decide) rfl (FrzP.cons (S := []) (T := []) (Frz.aggc (S := []) (T := []) (Frz.pure rfl) Frz.aggn) rfl (by decide) rfl (FrzP.cons (S := []) (T := []) (Frz.aggc (S := []) (T := []) (Frz.pure rfl) Frz.aggn) rfl (by decide) rfl (FrzP.nil))))) rfl ?_
  intro g33
  refine GL.buildSlice0 I0.mono (sz := 1) (z := [LV.int .i64 0]) (es := em ni [3, 4, 0, 9]) rfl rfl rfl rfl (by decide) (by decide) (by decide) (FrzP.cons (S := []) (T := []) (Frz.aggc (S := []) (T := []) (Frz.pure rfl) Frz.aggn) rfl (by decide) rfl (FrzP.cons (S := []) (T := []) (Frz.aggc (S := []) (T := []) (Frz.pure rfl) Frz.aggn) rfl (by decide) rfl (FrzP.cons (S := []) (T := []) (Frz.aggc (S := []) (T := []) (Frz.pure rfl) Frz.aggn) rfl (by decide) rfl (FrzP.cons (S := []) (T := []) (Frz.aggc (S := []) (T := []) (Frz.pure rfl) Frz.aggn) rfl (by decide) rfl (FrzP.nil))))) rfl ?_
  intro g34
  refine GL.buildSlice0 I0.mono (sz := 1) (z := [LV.int .i64 0]) (es := em ni [5, 1, 9, 0]) rfl rfl rfl rfl (by decide) (by decide) (by decide) (FrzP.cons (S := []) (T := []) (Frz.aggc (S := []) (T := []) (Frz.pure rfl) Frz.aggn) rfl (by decide) rfl (FrzP.cons (S := []) (T := []) (Frz.aggc (S := []) (T := []) (Frz.pure rfl) Frz.aggn) rfl (by decide) rfl (FrzP.cons (S := []) (T := []) (Frz.aggc (S := []) (T := []) (Frz.pure rfl) Frz.aggn) rfl (by decide) rfl (FrzP.cons (S := []) (T := []) (Frz.aggc (S := []) (T := []) (Frz.pure rfl) Frz.aggn) rfl (by decide) rfl (FrzP.nil))))) rfl ?_
  intro g35
  refine GL.buildSliceM I0.mono (sz := 1) (z := [LV.nils]) (es := em nr [[0, 2, 3, 5], [2, 0, 4, 1], [3, 4, 0, 9], [5, 1, 9, 0]]) rfl rfl rfl rfl (by decide) (by decide) (by decide) (FrzP.cons (Frz.aggc (by exact Frz.whole rfl rfl rfl rfl (by exact em_len _ _)) Frz.aggn) rfl (by decide) rfl (FrzP.cons (Frz.aggc (by exact Frz.whole rfl rfl rfl rfl (by exact em_len _ _)) Frz.aggn) rfl (by decide) rfl (FrzP.cons (Frz.aggc (by exact Frz.whole rfl rfl rfl rfl (by exact em_len _ _)) Frz.aggn) rfl (by decide) rfl (FrzP.cons (Frz.aggc (by exact Frz.whole rfl rfl rfl rfl (by exact em_len _ _)) Frz.aggn) rfl (by decide) rfl (FrzP.nil))))) rfl rfl ?_
  intro g36
  refine GL.buildS I0.mono (z := [LV.nils, LV.nils, LV.nils, LV.nils]) (cs := [_, _, _, _]) (n := 4) rfl rfl rfl (EvS.cons (by conv => lhs; whnf) (EvS.cons (by conv => lhs; whnf) (EvS.cons (by conv => lhs; whnf) (EvS.nil)))) rfl rfl ?_
  refine GL.alloc I0.mono (cs := [LV.nils, LV.nils, LV.nils, LV.nils]) rfl rfl ?_
  intro g3
  refine GL.storeW I0.mono (n := 4) rfl rfl rfl rfl rfl rfl rfl (by conv => lhs; whnf) rfl rfl rfl ?_
  refine GL.doneF ?_
  refine goOn ?_
  refine Wp.seqI ?_
  refine Wp.regD ?_
  refine GL.loadW I0.mono (n := 4) rfl rfl rfl rfl (by simp) rfl rfl rfl ?_
  refine GL.buildSlice0 I0.mono (sz := 1) (z := [LV.int .i64 0]) (es := em ni [1]) rfl rfl rfl rfl (by decide) (by decide) (by decide) (FrzP.cons (S := []) (T := []) (Frz.aggc (S := []) (T := []) (Frz.pure rfl) Frz.aggn) rfl (by decide) rfl (FrzP.nil)) rfl ?_
  intro g39
  refine GL.callX I0.mono (W := [1728, 1984, 2304, 2496]) rfl (Frz.aggc (Frz.aggc (by exact Frz.whole rfl rfl rfl rfl (by exact em_len _ _)) (Frz.aggc (by exact Frz.whole rfl rfl rfl rfl (by exact em_len _ _)) (Frz.aggc (by exact Frz.nils) (Frz.aggc (by exact Frz.whole rfl rfl rfl rfl (by exact em_len _ _)) Frz.aggn)))) (Frz.aggc (Frz.pure rfl) (Frz.aggc (Frz.whole rfl rfl rfl rfl rfl) Frz.aggn))) (new6) rfl rfl rfl (imp_tab _ _ _ _ _ _ _) ?_
  refine GL.loadW I0.mono (n := 4) rfl rfl rfl rfl (by simp) rfl rfl rfl ?_
  refine GL.buildSlice0 I0.mono (sz := 1) (z := [LV.int .i64 0]) (es := em ni [2, 3]) rfl rfl rfl rfl (by decide) (by decide) (by decide) (FrzP.cons (S := []) (T := []) (Frz.aggc (S := []) (T := []) (Frz.pure rfl) Frz.aggn) rfl (by decide) rfl (FrzP.cons (S := []) (T := []) (Frz.aggc (S := []) (T := []) (Frz.pure rfl) Frz.aggn) rfl (by decide) rfl (FrzP.nil))) rfl ?_
  intro g42
  refine GL.callX I0.mono (W := [2688]) rfl (Frz.aggc (Frz.aggc (by exact Frz.whole rfl rfl rfl rfl (by exact em_len _ _)) (Frz.aggc (by exact Frz.whole rfl rfl rfl rfl (by exact em_len _ _)) (Frz.aggc (by exact Frz.nils) (Frz.aggc (by exact Frz.whole rfl rfl rfl rfl (by exact em_len _ _)) Frz.aggn)))) (Frz.aggc (Frz.pure rfl) (Frz.aggc (Frz.whole rfl rfl rfl rfl rfl) Frz.aggn))) (new6b) rfl rfl rfl (imp_tab _ _ _ _ _ _ _) ?_
  refine GL.assign I0.mono (by conv => lhs; whnf) ?_
  refine GL.assign I0.mono (by conv => lhs; whnf) ?_
  refine GL.doneT (by kernel_rfl) ?_
  refine goOn ?_
  refine Wp.seqI ?_
  refine Wp.seqI ?_
  refine Wp.regI I0.mono ?_
  refine GL.move I0.mono (by conv => lhs; whnf) ?_
  refine GL.nilEq I0.mono rfl rfl rfl rfl rfl ?_
  refine GL.move I0.mono (by conv => lhs; whnf) ?_
  refine GL.guardT rfl ?_
  refine GL.move I0.mono (by conv => lhs; whnf) ?_
  refine GL.guardT rfl ?_
  refine GL.nilEq I0.mono rfl rfl rfl rfl rfl ?_
  refine GL.pick I0.mono rfl (by conv => lhs; whnf) ?_
  refine GL.doneF ?_
  refine goOn ?_
  refine Wp.condF rfl ?_
  refine Wp.skipI ?_
  refine goOn ?_
  refine Wp.seqI ?_
  refine Wp.regI I0.mono ?_
  refine GL.move I0.mono (by conv => lhs; whnf) ?_
  refine GL.callFl I0.mono rfl (Frz.aggc (Frz.ref rfl rfl rfl rfl (Frz.pures rfl)) Frz.aggn) (who6 (o := some 4) (by decide +kernel)) (flat_ib _ _) rfl rfl ?_
  refine GL.move I0.mono (by conv => lhs; whnf) ?_
  refine GL.extract I0.mono rfl rfl ?_
  refine GL.extract I0.mono rfl rfl ?_
  refine GL.assign I0.mono (by conv => lhs; whnf) ?_
  refine GL.assign I0.mono (by conv => lhs; whnf) ?_
  refine GL.doneF ?_
  refine goOn ?_
  refine Wp.seqI ?_
  refine Wp.regI I0.mono ?_
  refine GL.move I0.mono (by conv => lhs; whnf) ?_
  refine GL.callFl I0.mono rfl (Frz.aggc (Frz.ref rfl rfl rfl rfl (Frz.pures rfl)) (Frz.aggc (Frz.pure rfl) (Frz.aggc (Frz.pure rfl) Frz.aggn))) (ins6 (o := some 9) (by decide +kernel)) (flat_ib _ _) rfl rfl ?_
  refine GL.move I0.mono (by conv => lhs; whnf) ?_
  refine GL.extract I0.mono rfl rfl ?_
  refine GL.extract I0.mono rfl rfl ?_
  refine GL.assign I0.mono (by conv => lhs; whnf) ?_
  refine GL.assign I0.mono (by conv => lhs; whnf) ?_
  refine GL.doneF ?_
  refine goOn ?_
  refine Wp.seqI ?_
  refine Wp.regI I0.mono ?_
  refine GL.move I0.mono (by conv => lhs; whnf) ?_
  refine GL.callFl I0.mono rfl (Frz.aggc (Frz.ref rfl rfl rfl rfl (Frz.pures rfl)) (Frz.aggc (Frz.pure rfl) (Frz.aggc (Frz.pure rfl) Frz.aggn))) (ins6 (o := some 9) (by decide +kernel)) (flat_ib _ _) rfl rfl ?_
  refine GL.move I0.mono (by conv => lhs; whnf) ?_
  refine GL.extract I0.mono rfl rfl ?_
  refine GL.extract I0.mono rfl rfl ?_
  refine GL.assign I0.mono (by conv => lhs; whnf) ?_
  refine GL.assign I0.mono (by conv => lhs; whnf) ?_
  refine GL.doneF ?_
  refine goOn ?_
  refine Wp.seqI ?_
  refine Wp.regI I0.mono ?_
  refine GL.move I0.mono (by conv => lhs; whnf) ?_
  refine GL.callFl I0.mono rfl (Frz.aggc (Frz.ref rfl rfl rfl rfl (Frz.pures rfl)) (Frz.aggc (Frz.pure rfl) (Frz.aggc (Frz.pure rfl) Frz.aggn))) (ins6 (o := some 8) (by decide +kernel)) (flat_ib _ _) rfl rfl ?_
  refine GL.move I0.mono (by conv => lhs; whnf) ?_
  refine GL.extract I0.mono rfl rfl ?_
  refine GL.extract I0.mono rfl rfl ?_
  refine GL.assign I0.mono (by conv => lhs; whnf) ?_
  refine GL.assign I0.mono (by conv => lhs; whnf) ?_
  refine GL.doneF ?_
  refine goOn ?_
  refine Wp.seqI ?_
  refine Wp.regI I0.mono ?_
  refine GL.move I0.mono (by conv => lhs; whnf) ?_
  refine GL.callFl I0.mono rfl (Frz.aggc (Frz.ref rfl rfl rfl rfl (Frz.pures rfl)) (Frz.aggc (Frz.pure rfl) Frz.aggn)) (rem6 (o := some 0) (by decide +kernel)) (flat_ib _ _) rfl rfl ?_
  refine GL.move I0.mono (by conv => lhs; whnf) ?_
  refine GL.extract I0.mono rfl rfl ?_
  refine GL.extract I0.mono rfl rfl ?_
  refine GL.assign I0.mono (by conv => lhs; whnf) ?_
  refine GL.assign I0.mono (by conv => lhs; whnf) ?_
  refine GL.doneF ?_
  refine goOn ?_
  refine Wp.seqI ?_
  refine Wp.regI I0.mono ?_
  refine GL.move I0.mono (by conv => lhs; whnf) ?_
  refine GL.move I0.mono (by conv => lhs; whnf) ?_
  refine GL.callFl I0.mono rfl (Frz.aggc (Frz.ref rfl rfl rfl rfl (Frz.pures rfl)) (Frz.aggc (Frz.pure rfl) (Frz.aggc (Frz.ref rfl rfl rfl rfl (Frz.pures rfl)) (Frz.aggc (Frz.pure rfl) Frz.aggn)))) (cro6 (o := none) (by decide +kernel)) (flat_ib _ _) rfl rfl ?_
  refine GL.move I0.mono (by conv => lhs; whnf) ?_
  refine GL.extract I0.mono rfl rfl ?_
  refine GL.extract I0.mono rfl rfl ?_
  refine GL.assign I0.mono (by conv => lhs; whnf) ?_
  refine GL.assign I0.mono (by conv => lhs; whnf) ?_
  refine GL.doneF ?_
  refine goOn ?_
  refine Wp.seqI ?_
  refine Wp.regI I0.mono ?_
  refine GL.move I0.mono (by conv => lhs; whnf) ?_
  refine GL.move I0.mono (by conv => lhs; whnf) ?_
  refine GL.callFl I0.mono rfl (Frz.aggc (Frz.ref rfl rfl rfl rfl (Frz.pures rfl)) (Frz.aggc (Frz.pure rfl) (Frz.aggc (Frz.ref rfl rfl rfl rfl (Frz.pures rfl)) (Frz.aggc (Frz.pure rfl) Frz.aggn)))) (cro6 (o := some 8) (by decide +kernel)) (flat_ib _ _) rfl rfl ?_
  refine GL.move I0.mono (by conv => lhs; whnf) ?_
  refine GL.extract I0.mono rfl rfl ?_
  refine GL.extract I0.mono rfl rfl ?_
  refine GL.assign I0.mono (by conv => lhs; whnf) ?_
  refine GL.assign I0.mono (by conv => lhs; whnf) ?_
  refine GL.doneF ?_
  refine goOn ?_
  refine Wp.seqI ?_
  refine Wp.regI I0.mono ?_
  refine GL.move I0.mono (by conv => lhs; whnf) ?_
  refine GL.callFl I0.mono rfl (Frz.aggc (Frz.ref rfl rfl rfl rfl (Frz.pures rfl)) Frz.aggn) (who6 (o := some 17) (by decide +kernel)) (flat_ib _ _) rfl rfl ?_
  refine GL.move I0.mono (by conv => lhs; whnf) ?_
  refine GL.extract I0.mono rfl rfl ?_
  refine GL.extract I0.mono rfl rfl ?_
  refine GL.assign I0.mono (by conv => lhs; whnf) ?_
  refine GL.assign I0.mono (by conv => lhs; whnf) ?_
  refine GL.doneF ?_
  refine goOn ?_
  refine Wp.seqI ?_
  refine Wp.regI I0.mono ?_
  refine GL.move I0.mono (by conv => lhs; whnf) ?_
  refine GL.callFl I0.mono rfl (Frz.aggc (Frz.ref rfl rfl rfl rfl (Frz.pures rfl)) (Frz.aggc (Frz.pure rfl) (Frz.aggc (Frz.pure rfl) Frz.aggn))) (ins6 (o := none) (by decide +kernel)) (flat_ib _ _) rfl rfl ?_
  refine GL.move I0.mono (by conv => lhs; whnf) ?_
  refine GL.extract I0.mono rfl rfl ?_
  refine GL.extract I0.mono rfl rfl ?_
  refine GL.assign I0.mono (by conv => lhs; whnf) ?_
  refine GL.assign I0.mono (by conv => lhs; whnf) ?_
  refine GL.doneF ?_
  refine goOn ?_
  refine Wp.seqI ?_
  refine Wp.regI I0.mono ?_
  refine GL.move I0.mono (by conv => lhs; whnf) ?_
  refine GL.call0 I0.mono rfl (Frz.aggc (by exact Frz.pure rfl) (Frz.aggc (by exact Frz.pure rfl) (Frz.aggn))) (within_ok n 1000 (by decide)) rfl rfl (fun _ => rfl) ?_
  refine GL.assign I0.mono (by conv => lhs; whnf) ?_
  refine GL.doneF ?_
  refine goOn ?_
  refine Wp.seqI ?_
  refine Wp.regI I0.mono ?_
  refine GL.move I0.mono (by conv => lhs; whnf) ?_
  refine GL.move I0.mono (by conv => lhs; whnf) ?_
  have hw := within_in (a := n) (n := 1000) (by decide)
  refine GL.addR I0.mono rfl rfl (by omega) ?_
  refine GL.callFl I0.mono rfl (Frz.aggc (Frz.ref rfl rfl rfl rfl (Frz.pures rfl)) (Frz.aggc (Frz.pure rfl) (Frz.aggc (Frz.pure rfl) Frz.aggn))) (ins6 (o := none) (out6 (by omega))) (flat_ib _ _) rfl rfl ?_
  refine GL.move I0.mono (by conv => lhs; whnf) ?_
  refine GL.extract I0.mono rfl rfl ?_
  refine GL.extract I0.mono rfl rfl ?_
  refine GL.assign I0.mono (by conv => lhs; whnf) ?_
  refine GL.assign I0.mono (by conv => lhs; whnf) ?_
  refine GL.doneF ?_
  refine goOn ?_
  refine Wp.seqI ?_
  refine Wp.regI I0.mono ?_
  refine GL.move I0.mono (by conv => lhs; whnf) ?_
  refine GL.bin I0.mono (v := .bool true) (by kernel_rfl) ?_
  refine GL.move I0.mono (by conv => lhs; whnf) ?_
  refine GL.guardT rfl ?_
  refine GL.move I0.mono (by conv => lhs; whnf) ?_
  refine GL.pick I0.mono rfl (by conv => lhs; whnf) ?_
  refine GL.move I0.mono (by conv => lhs; whnf) ?_
  refine GL.guardT rfl ?_
  refine GL.move I0.mono (by conv => lhs; whnf) ?_
  refine GL.guardT rfl ?_
  refine GL.bin I0.mono (v := .bool true) (by kernel_rfl) ?_
  refine GL.pick I0.mono rfl (by conv => lhs; whnf) ?_
  refine GL.move I0.mono (by conv => lhs; whnf) ?_
  refine GL.guardT rfl ?_
  refine GL.move I0.mono (by conv => lhs; whnf) ?_
  refine GL.pick I0.mono rfl (by conv => lhs; whnf) ?_
  refine GL.move I0.mono (by conv => lhs; whnf) ?_
  refine GL.guardT rfl ?_
  refine GL.move I0.mono (by conv => lhs; whnf) ?_
  refine GL.guardT rfl ?_
  refine GL.bin I0.mono (v := .bool true) (by kernel_rfl) ?_
  refine GL.pick I0.mono rfl (by conv => lhs; whnf) ?_
  refine GL.move I0.mono (by conv => lhs; whnf) ?_
  refine GL.guardT rfl ?_
  refine GL.move I0.mono (by conv => lhs; whnf) ?_
  refine GL.pick I0.mono rfl (by conv => lhs; whnf) ?_
  refine GL.move I0.mono (by conv => lhs; whnf) ?_
  refine GL.guardT rfl ?_
  refine GL.move I0.mono (by conv => lhs; whnf) ?_
  refine GL.guardT rfl ?_
  refine GL.bin I0.mono (v := .bool true) (by kernel_rfl) ?_
  refine GL.pick I0.mono rfl (by conv => lhs; whnf) ?_
  refine GL.move I0.mono (by conv => lhs; whnf) ?_
  refine GL.guardT rfl ?_
  refine GL.move I0.mono (by conv => lhs; whnf) ?_
  refine GL.pick I0.mono rfl (by conv => lhs; whnf) ?_
  refine GL.move I0.mono (by conv => lhs; whnf) ?_
  refine GL.guardT rfl ?_
  refine GL.move I0.mono (by conv => lhs; whnf) ?_
  refine GL.guardT rfl ?_
  refine GL.bin I0.mono (v := .bool true) (by kernel_rfl) ?_
  refine GL.pick I0.mono rfl (by conv => lhs; whnf) ?_
  refine GL.move I0.mono (by conv => lhs; whnf) ?_
  refine GL.guardT rfl ?_
  refine GL.move I0.mono (by conv => lhs; whnf) ?_
  refine GL.pick I0.mono rfl (by conv => lhs; whnf) ?_
  refine GL.move I0.mono (by conv => lhs; whnf) ?_
  refine GL.guardT rfl ?_
  refine GL.move I0.mono (by conv => lhs; whnf) ?_
  refine GL.guardT rfl ?_
  refine GL.bin I0.mono (v := .bool true) (by kernel_rfl) ?_
  refine GL.pick I0.mono rfl (by conv => lhs; whnf) ?_
  refine GL.move I0.mono (by conv => lhs; whnf) ?_
  refine GL.guardT rfl ?_
  refine GL.move I0.mono (by conv => lhs; whnf) ?_
  refine GL.guardT rfl ?_
  refine GL.un I0.mono rfl ?_
  refine GL.pick I0.mono rfl (by conv => lhs; whnf) ?_
  refine GL.move I0.mono (by conv => lhs; whnf) ?_
  refine GL.guardT rfl ?_
  refine GL.move I0.mono (by conv => lhs; whnf) ?_
  refine GL.guardT rfl ?_
  refine GL.bin I0.mono (v := .bool true) (by kernel_rfl) ?_
  refine GL.pick I0.mono rfl (by conv => lhs; whnf) ?_
  refine GL.move I0.mono (by conv => lhs; whnf) ?_
  refine GL.guardT rfl ?_
  refine GL.move I0.mono (by conv => lhs; whnf) ?_
  refine GL.pick I0.mono rfl (by conv => lhs; whnf) ?_
  refine GL.move I0.mono (by conv => lhs; whnf) ?_
  refine GL.guardT rfl ?_
  refine GL.move I0.mono (by conv => lhs; whnf) ?_
  refine GL.guardT rfl ?_
  refine GL.bin I0.mono (v := .bool true) (by kernel_rfl) ?_
  refine GL.pick I0.mono rfl (by conv => lhs; whnf) ?_
  refine GL.move I0.mono (by conv => lhs; whnf) ?_
  refine GL.guardT rfl ?_
  refine GL.move I0.mono (by conv => lhs; whnf) ?_
  refine GL.pick I0.mono rfl (by conv => lhs; whnf) ?_
  refine GL.move I0.mono (by conv => lhs; whnf) ?_
  refine GL.guardT rfl ?_
  refine GL.move I0.mono (by conv => lhs; whnf) ?_
  refine GL.guardT rfl ?_
  refine GL.bin I0.mono (v := .bool true) (by kernel_rfl) ?_
  refine GL.pick I0.mono rfl (by conv => lhs; whnf) ?_
  refine GL.move I0.mono (by conv => lhs; whnf) ?_
  refine GL.guardT rfl ?_
  refine GL.move I0.mono (by conv => lhs; whnf) ?_
  refine GL.guardT rfl ?_
  refine GL.un I0.mono rfl ?_
  refine GL.pick I0.mono rfl (by conv => lhs; whnf) ?_
  refine GL.move I0.mono (by conv => lhs; whnf) ?_
  refine GL.guardT rfl ?_
  refine GL.move I0.mono (by conv => lhs; whnf) ?_
  refine GL.guardT rfl ?_
  refine GL.un I0.mono rfl ?_
  refine GL.pick I0.mono rfl (by conv => lhs; whnf) ?_
  refine GL.move I0.mono (by conv => lhs; whnf) ?_
  refine GL.guardT rfl ?_
  refine GL.call0 I0.mono rfl (Frz.aggn) (wakes6_ok) rfl rfl (fun _ => rfl) ?_
  refine GL.pick I0.mono rfl (by conv => lhs; whnf) ?_
  refine GL.assign I0.mono (by conv => lhs; whnf) ?_
  refine GL.doneF ?_
  refine goOn ?_
  refine Wp.retI ?_
  refine RetX.ret ?_
  refine ⟨_, _, _, _, .cons (.tmp rfl) .nil, .frz (.pure rfl), List.nodup_nil, by simp, ?_⟩
  rfl

end Go.Proofs.Ytpepcfombibpeaa
