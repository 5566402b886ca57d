/- The law of the forms of a table, walked. -/
import Derived.Test.YtpepcfombibpeaaFp
import Derived.Test.YtpepcfombibpeaaMv41
import Derived.KernelRfl
set_option linter.unusedVariables false
set_option linter.unusedSimpArgs false
namespace Go.Proofs.Ytpepcfombibpeaa
open Go.Proofs Mv



def wake5 : Inst := ⟨[⟨0, 0, 5⟩], [], [], [[0]]⟩
theorem short_w5 : wake5.Short := ⟨by unfold Short; decide, by unfold Short; decide, by unfold Short; decide, by unfold Short; decide, by show ∀ r ∈ _, List.length r < 1073741824; decide⟩
theorem w5_begin : CallsV Try.prog 40 [ei wake5, .int .i64 0] (.agg (nh ⟨true, 0, 0, 0, 0, 0, 0⟩)) := begin_ok wake5 short_w5 0
theorem w5_end : CallsV Try.prog 41 [ei wake5, .int .i64 0] (.agg (nl ⟨true, 0, 5, 0, 0, 0, 0, 0⟩)) := end_ok wake5 short_w5 0
theorem meet_is {i : Inst} (hs : i.Short) {c : Int} {h : Head} {t : Tail} {o : Option Int} (e : meet i c h t = o) : CallsV Try.prog 39 [ei i, .int .i64 c, .agg (nh h), .agg (nl t)] (.tup [.int .i64 (o.getD 0), .bool o.isSome]) := e ▸ meet_ok i hs c h t
theorem w5_meet : CallsV Try.prog 39 [ei wake5, .int .i64 0, .agg (nh ⟨true, 0, 0, 0, 0, 0, 0⟩), .agg (nl ⟨true, 0, 5, 0, 0, 0, 0, 0⟩)] (.tup [.int .i64 0, .bool true]) := meet_is short_w5 (o := some 0) (by decide +kernel)

set_option maxRecDepth 100000 in
set_option maxHeartbeats 4000000 in
theorem wakes5_ok : CallsV Try.prog 36 [] (.bool true) := by
  refine CallsR.intro (I0.sound _) mix Try.func36 rfl rfl (by simp [Try.f36]) (by kernel_rfl) (nb := 0) ?_
  unfold Try.f36
  refine Wp.seqI ?_
  refine Wp.regI I0.mono ?_
  refine GL.assign I0.mono (by conv => lhs; whnf) ?_
  refine GL.doneF ?_
  refine goOn ?_
  refine Wp.seqI ?_
  refine Wp.regI I0.mono ?_
  refine GL.buildS I0.mono (z := [LV.int .i64 0, LV.int .i64 0, LV.int .i64 0]) (cs := [_, _, _]) (n := 3) rfl rfl rfl (EvS.cons (by conv => lhs; whnf) (EvS.nil)) rfl rfl ?_
  refine GL.buildSlice0 I0.mono (sz := 3) (z := [LV.int .i64 0, LV.int .i64 0, LV.int .i64 0]) (es := em nc [⟨0, 0, 5⟩]) rfl rfl rfl rfl (by decide) (by decide) (by decide) (FrzP.cons (S := []) (T := []) (Frz.pures rfl) rfl (by decide) rfl (FrzP.nil)) rfl ?_
  intro g5
  refine GL.buildSlice0 I0.mono (sz := 1) (z := [LV.int .i64 0]) (es := em ni [0]) rfl rfl rfl rfl (by decide) (by decide) (by decide) (FrzP.cons (S := []) (T := []) (Frz.aggc (S := []) (T := []) (Frz.pure rfl) Frz.aggn) rfl (by decide) rfl (FrzP.nil)) rfl ?_
  intro g6
  refine GL.buildSliceM I0.mono (sz := 1) (z := [LV.nils]) (es := em nr [[0]]) rfl rfl rfl rfl (by decide) (by decide) (by decide) (FrzP.cons (Frz.aggc (by first | exact Frz.pure rfl | exact Frz.nils | exact Frz.whole rfl rfl rfl rfl (by first | exact em_len _ _ | (rw [em_len]; omega))) Frz.aggn) rfl (by decide) rfl (FrzP.nil)) rfl rfl ?_
  intro g7
  refine GL.buildS I0.mono (z := [LV.nils, LV.nils, LV.nils, LV.nils]) (cs := [_, _, _, _]) (n := 4) rfl rfl rfl (EvS.cons (by conv => lhs; whnf) (EvS.cons (by conv => lhs; whnf) (EvS.nil))) rfl rfl ?_
  refine GL.alloc I0.mono (cs := [LV.nils, LV.nils, LV.nils, LV.nils]) rfl rfl ?_
  intro g1
  refine GL.store I0.mono (n := 4) rfl rfl rfl rfl rfl rfl rfl rfl rfl rfl (Nat.le_of_ble_eq_true rfl) (by first | (conv => lhs; simp only [List.take_succ_cons, List.take_zero, List.drop_succ_cons, List.drop_zero, List.nil_append, List.cons_append, List.drop_nil, List.append_nil, List.take_nil, List.set_cons_zero, List.set_cons_succ, Nat.zero_add, ni, nr, nc, ns, np, ic, nt, ei, cellsL, nh, nl, u32]) | rfl) (by first | (conv => lhs; simp only [List.take_succ_cons, List.take_zero, List.drop_succ_cons, List.drop_zero, List.nil_append, List.cons_append, List.drop_nil, List.append_nil, List.take_nil, List.set_cons_zero, List.set_cons_succ, Nat.zero_add, ni, nr, nc, ns, np, ic, nt, ei, cellsL, nh, nl, u32]) | rfl) ?_
  refine GL.doneF ?_
  refine goOn ?_
  refine Wp.seqI ?_
  refine Wp.regD ?_
  first | refine GL.loadA I0.mono (n := 4) rfl rfl rfl rfl (by simp) rfl rfl (Nat.le_of_ble_eq_true rfl) (by first | (conv => lhs; simp only [List.take_succ_cons, List.take_zero, List.drop_succ_cons, List.drop_zero, List.nil_append, List.cons_append, List.drop_nil, List.append_nil, List.take_nil, List.set_cons_zero, List.set_cons_succ, Nat.zero_add, ni, nr, nc, ns, np, ic, nt, ei, cellsL, nh, nl, u32]) | rfl) ?_ | refine GL.loadFA I0.mono (n := 4) rfl rfl rfl rfl (Nat.le_of_ble_eq_true rfl) (by first | (conv => lhs; simp only [List.take_succ_cons, List.take_zero, List.drop_succ_cons, List.drop_zero, List.nil_append, List.cons_append, List.drop_nil, List.append_nil, List.take_nil, List.set_cons_zero, List.set_cons_succ, Nat.zero_add, ni, nr, nc, ns, np, ic, nt, ei, cellsL, nh, nl, u32]) | rfl) ?_
  first | refine GL.loadA I0.mono (n := 4) rfl rfl rfl rfl (by simp) rfl rfl (Nat.le_of_ble_eq_true rfl) (by first | (conv => lhs; simp only [List.take_succ_cons, List.take_zero, List.drop_succ_cons, List.drop_zero, List.nil_append, List.cons_append, List.drop_nil, List.append_nil, List.take_nil, List.set_cons_zero, List.set_cons_succ, Nat.zero_add, ni, nr, nc, ns, np, ic, nt, ei, cellsL, nh, nl, u32]) | rfl) ?_ | refine GL.loadFA I0.mono (n := 4) rfl rfl rfl rfl (Nat.le_of_ble_eq_true rfl) (by first | (conv => lhs; simp only [List.take_succ_cons, List.take_zero, List.drop_succ_cons, List.drop_zero, List.nil_append, List.cons_append, List.drop_nil, List.append_nil, List.take_nil, List.set_cons_zero, List.set_cons_succ, Nat.zero_add, ni, nr, nc, ns, np, ic, nt, ei, cellsL, nh, nl, u32]) | rfl) ?_
  refine GL.callMW I0.mono (W := [320, 448]) rfl (Frz.aggc (Frz.aggc (by first | exact Frz.pure rfl | exact Frz.nils | exact Frz.whole rfl rfl rfl rfl (by first | exact em_len _ _ | (rw [em_len]; omega))) (Frz.aggc (by first | exact Frz.pure rfl | exact Frz.nils | exact Frz.whole rfl rfl rfl rfl (by first | exact em_len _ _ | (rw [em_len]; omega))) (Frz.aggc (by first | exact Frz.pure rfl | exact Frz.nils | exact Frz.whole rfl rfl rfl rfl (by first | exact em_len _ _ | (rw [em_len]; omega))) (Frz.aggc (by first | exact Frz.pure rfl | exact Frz.nils | exact Frz.whole rfl rfl rfl rfl (by first | exact em_len _ _ | (rw [em_len]; omega))) Frz.aggn)))) (Frz.aggc (Frz.pure rfl) Frz.aggn)) w5_begin rfl rfl rfl (fun _ => rfl) ?_
  first | refine GL.loadA I0.mono (n := 4) rfl rfl rfl rfl (by simp) rfl rfl (Nat.le_of_ble_eq_true rfl) (by first | (conv => lhs; simp only [List.take_succ_cons, List.take_zero, List.drop_succ_cons, List.drop_zero, List.nil_append, List.cons_append, List.drop_nil, List.append_nil, List.take_nil, List.set_cons_zero, List.set_cons_succ, Nat.zero_add, ni, nr, nc, ns, np, ic, nt, ei, cellsL, nh, nl, u32]) | rfl) ?_ | refine GL.loadFA I0.mono (n := 4) rfl rfl rfl rfl (Nat.le_of_ble_eq_true rfl) (by first | (conv => lhs; simp only [List.take_succ_cons, List.take_zero, List.drop_succ_cons, List.drop_zero, List.nil_append, List.cons_append, List.drop_nil, List.append_nil, List.take_nil, List.set_cons_zero, List.set_cons_succ, Nat.zero_add, ni, nr, nc, ns, np, ic, nt, ei, cellsL, nh, nl, u32]) | rfl) ?_
  refine GL.call0 I0.mono rfl ((Frz.aggc (Frz.aggc (by first | exact Frz.pure rfl | exact Frz.nils | exact Frz.whole rfl rfl rfl rfl (by first | exact em_len _ _ | (rw [em_len]; omega))) (Frz.aggc (by first | exact Frz.pure rfl | exact Frz.nils | exact Frz.whole rfl rfl rfl rfl (by first | exact em_len _ _ | (rw [em_len]; omega))) (Frz.aggc (by first | exact Frz.pure rfl | exact Frz.nils | exact Frz.whole rfl rfl rfl rfl (by first | exact em_len _ _ | (rw [em_len]; omega))) (Frz.aggc (by first | exact Frz.pure rfl | exact Frz.nils | exact Frz.whole rfl rfl rfl rfl (by first | exact em_len _ _ | (rw [em_len]; omega))) Frz.aggn)))) (Frz.aggc (Frz.pure rfl) Frz.aggn))) w5_end rfl rfl (fun _ => rfl) ?_
  refine GL.call0 I0.mono rfl ((Frz.aggc (Frz.aggc (by first | exact Frz.pure rfl | exact Frz.nils | exact Frz.whole rfl rfl rfl rfl (by first | exact em_len _ _ | (rw [em_len]; omega))) (Frz.aggc (by first | exact Frz.pure rfl | exact Frz.nils | exact Frz.whole rfl rfl rfl rfl (by first | exact em_len _ _ | (rw [em_len]; omega))) (Frz.aggc (by first | exact Frz.pure rfl | exact Frz.nils | exact Frz.whole rfl rfl rfl rfl (by first | exact em_len _ _ | (rw [em_len]; omega))) (Frz.aggc (by first | exact Frz.pure rfl | exact Frz.nils | exact Frz.whole rfl rfl rfl rfl (by first | exact em_len _ _ | (rw [em_len]; omega))) Frz.aggn)))) (Frz.aggc (Frz.pure rfl) (Frz.aggc (Frz.aggc (Frz.pure rfl) (Frz.aggc (Frz.pure rfl) (Frz.aggc (Frz.pure rfl) (Frz.aggc (Frz.pure rfl) (Frz.aggc (Frz.pure rfl) (Frz.aggc (Frz.pure rfl) (Frz.aggc (Frz.pure rfl) Frz.aggn))))))) (Frz.aggc (Frz.aggc (Frz.pure rfl) (Frz.aggc (Frz.pure rfl) (Frz.aggc (Frz.pure rfl) (Frz.aggc (Frz.pure rfl) (Frz.aggc (Frz.pure rfl) (Frz.aggc (Frz.pure rfl) (Frz.aggc (Frz.pure rfl) (Frz.aggc (Frz.pure rfl) Frz.aggn)))))))) Frz.aggn))))) w5_meet rfl rfl (fun _ => rfl) ?_
  refine GL.move I0.mono (by conv => lhs; whnf) ?_
  refine GL.extract I0.mono rfl rfl ?_
  refine GL.extract I0.mono rfl rfl ?_
  refine GL.assign I0.mono (by conv => lhs; whnf) ?_
  refine GL.assign I0.mono (by conv => lhs; whnf) ?_
  refine GL.doneT (by kernel_rfl) ?_
  refine goOn ?_
  refine Wp.seqI ?_
  refine Wp.regI I0.mono ?_
  refine GL.move I0.mono (by conv => lhs; whnf) ?_
  refine GL.move I0.mono (by conv => lhs; whnf) ?_
  refine GL.guardT rfl ?_
  refine GL.move I0.mono (by conv => lhs; whnf) ?_
  refine GL.guardT rfl ?_
  refine GL.bin I0.mono rfl ?_
  refine GL.pick I0.mono rfl (by conv => lhs; whnf) ?_
  refine GL.move I0.mono (by conv => lhs; whnf) ?_
  refine GL.guardT rfl ?_
  first | refine GL.loadA I0.mono (n := 4) rfl rfl rfl rfl (by simp) rfl rfl (Nat.le_of_ble_eq_true rfl) (by first | (conv => lhs; simp only [List.take_succ_cons, List.take_zero, List.drop_succ_cons, List.drop_zero, List.nil_append, List.cons_append, List.drop_nil, List.append_nil, List.take_nil, List.set_cons_zero, List.set_cons_succ, Nat.zero_add, ni, nr, nc, ns, np, ic, nt, ei, cellsL, nh, nl, u32]) | rfl) ?_ | refine GL.loadFA I0.mono (n := 4) rfl rfl rfl rfl (Nat.le_of_ble_eq_true rfl) (by first | (conv => lhs; simp only [List.take_succ_cons, List.take_zero, List.drop_succ_cons, List.drop_zero, List.nil_append, List.cons_append, List.drop_nil, List.append_nil, List.take_nil, List.set_cons_zero, List.set_cons_succ, Nat.zero_add, ni, nr, nc, ns, np, ic, nt, ei, cellsL, nh, nl, u32]) | rfl) ?_
  refine GL.guardT rfl ?_
  refine GL.call0 I0.mono rfl ((Frz.aggc (Frz.aggc (by first | exact Frz.pure rfl | exact Frz.nils | exact Frz.whole rfl rfl rfl rfl (by first | exact em_len _ _ | (rw [em_len]; omega))) (Frz.aggc (by first | exact Frz.pure rfl | exact Frz.nils | exact Frz.whole rfl rfl rfl rfl (by first | exact em_len _ _ | (rw [em_len]; omega))) (Frz.aggc (by first | exact Frz.pure rfl | exact Frz.nils | exact Frz.whole rfl rfl rfl rfl (by first | exact em_len _ _ | (rw [em_len]; omega))) (Frz.aggc (by first | exact Frz.pure rfl | exact Frz.nils | exact Frz.whole rfl rfl rfl rfl (by first | exact em_len _ _ | (rw [em_len]; omega))) Frz.aggn)))) (Frz.aggc (Frz.pure rfl) Frz.aggn))) w5_end rfl rfl (fun _ => rfl) ?_
  refine GL.guardT rfl ?_
  refine GL.field I0.mono rfl rfl rfl rfl rfl rfl ?_
  refine GL.guardT rfl ?_
  refine GL.bin I0.mono rfl ?_
  refine GL.pick I0.mono rfl (by conv => lhs; whnf) ?_
  refine GL.assign I0.mono (by conv => lhs; whnf) ?_
  refine GL.doneF ?_
  refine goOn ?_
  refine Wp.retI ?_
  refine RetX.ret ?_
  refine ⟨_, _, _, _, .cons (.tmp rfl) .nil, .frz (.pure rfl), List.nodup_nil, by simp, ?_⟩
  rfl


def inst5 : Inst := ⟨[⟨6, 10, 60⟩], [⟨3, 0, 40, 2⟩, ⟨2, 30, 35, 5⟩, ⟨-2, 0, 50, 0⟩], [⟨2, 3⟩], [[0, 4, 6, 8], [5, 0, 2, 9], [7, 3, 0, 2], [1, 1, 1, 0]]⟩
theorem short5 : inst5.Short := ⟨by unfold Short; decide, by unfold Short; decide, by unfold Short; decide, by unfold Short; decide, by show ∀ r ∈ _, List.length r < 1073741824; decide⟩
theorem tb5 : Tb inst5 := ⟨short5, by decide, fun n => by
  show mate [⟨2, 3⟩] n ≤ 1000000
  simp only [mate]
  split
  · decide
  · split <;> decide⟩
def H5 : List Head := [⟨true, 0, 10, 0, 0, 0, 0⟩, ⟨true, 1, 16, 3, 0, 2, 4⟩, ⟨true, 2, 35, 5, 4, 6, 6⟩, ⟨true, 3, 37, 3, 0, 14, 8⟩]
def T5 : List Tail := [⟨true, 1, 31, 0, 5, 0, 14, 5⟩, ⟨true, 2, 35, 0, 2, 0, 12, 3⟩, ⟨true, 3, 50, -2, 0, 4, 8, 1⟩, ⟨true, 0, 60, 0, 0, 0, 0, 0⟩]
theorem heads5 : CallsV Try.prog 38 [ei inst5, .int .i64 0, .sl (em ni [1, 2, 3])] (.sl (em nh H5)) := by
  have := heads_ok inst5 tb5 0 [1, 2, 3] (by unfold Short; decide)
  rwa [show heads inst5 0 [1, 2, 3] = H5 by decide +kernel] at this
theorem tails5 : CallsV Try.prog 35 [ei inst5, .int .i64 0, .sl (em ni [1, 2, 3])] (.sl (em nl T5)) := by
  have := tails_ok inst5 tb5 0 [1, 2, 3] (by unfold Short; decide)
  rwa [show tails inst5 0 [1, 2, 3] = T5 by decide +kernel] at this
theorem isT5 {c s : Int} (h : c ≥ 1 ∨ c < 0 ∨ s < 0 ∨ s > 3) : isT inst5 c s = false := by
  have e1 : (inst5.cars.length : Int) = 1 := rfl
  have e2 : (inst5.stops.length : Int) = 3 := rfl
  rw [← Bool.not_eq_true]
  unfold isT
  rw [e1, e2]
  simp only [Bool.and_eq_true, decide_eq_true_eq]
  omega
theorem heads5n {n : Int} (h : 1 ≤ n) : CallsV Try.prog 38 [ei inst5, .int .i64 n, .sl (em ni [1])] (.sl (em nh [])) := by
  have := heads_ok inst5 tb5 n [1] (by unfold Short; decide)
  rwa [show heads inst5 n [1] = [] by rw [heads, isT5 (.inl h)]; rfl] at this
theorem begin5n {n : Int} (h : 1 ≤ n) : CallsV Try.prog 40 [ei inst5, .int .i64 n] (.agg (nh zeroH)) := by
  have := begin_ok inst5 short5 n
  rwa [show beginT inst5 n = zeroH by rw [beginT, isT5 (.inl h)]; rfl] at this
theorem end5n {n : Int} (h : n < 0) : CallsV Try.prog 41 [ei inst5, .int .i64 n] (.agg (nl zeroTl)) := by
  have := end_ok inst5 short5 n
  rwa [show endT inst5 n = zeroTl by rw [endT, isT5 (.inr (.inl h))]; rfl] at this
theorem ext5 {h : Head} {s : Int} (e : extend inst5 0 h s = zeroH) : CallsV Try.prog 42 [ei inst5, .int .i64 0, .agg (nh h), .int .i64 s] (.agg (nh zeroH)) := e ▸ extend_ok inst5 tb5 0 h s
theorem bef5 {h : Tail} {s : Int} (e : before inst5 0 s h = zeroTl) : CallsV Try.prog 43 [ei inst5, .int .i64 0, .int .i64 s, .agg (nl h)] (.agg (nl zeroTl)) := e ▸ before_ok inst5 tb5 0 s h
theorem ext5_out {h : Head} {s : Int} (hs : s > 3) : extend inst5 0 h s = zeroH := by
  rw [extend, if_neg]
  rintro ⟨-, h1, -⟩
  rw [isT5 (.inr (.inr (.inr hs)))] at h1
  cases h1
theorem bef5_out {h : Tail} {s : Int} (hs : s < 0) : before inst5 0 s h = zeroTl := by
  rw [before, if_neg]
  rintro ⟨-, h1, -⟩
  rw [isT5 (.inr (.inr (.inl hs)))] at h1
  cases h1

set_option maxRecDepth 100000 in
set_option maxHeartbeats 4000000 in
theorem hand5_ok : CallsV Try.prog 37 [] (ei inst5) := by
  refine CallsR.intro (I0.sound _) mix Try.func37 rfl rfl (by simp [Try.f37]) (by kernel_rfl) (nb := 0) ?_
  unfold Try.f37
  refine Wp.seqI ?_
  refine Wp.regI I0.mono ?_
  refine GL.alloc I0.mono (cs := [LV.nils, LV.nils, LV.nils, LV.nils]) rfl rfl ?_
  intro g0
  refine GL.doneF ?_
  refine goOn ?_
  refine Wp.seqI ?_
  refine Wp.regI I0.mono ?_
  refine GL.buildS I0.mono (z := [LV.int .i64 0, LV.int .i64 0, LV.int .i64 0]) (cs := [_, _, _]) (n := 3) rfl rfl rfl (EvS.cons (by conv => lhs; whnf) (EvS.cons (by conv => lhs; whnf) (EvS.cons (by conv => lhs; whnf) (EvS.nil)))) rfl rfl ?_
  refine GL.buildSlice0 I0.mono (sz := 3) (z := [LV.int .i64 0, LV.int .i64 0, LV.int .i64 0]) (es := em nc [⟨6, 10, 60⟩]) rfl rfl rfl rfl (by decide) (by decide) (by decide) (FrzP.cons (S := []) (T := []) (Frz.pures rfl) rfl (by decide) rfl (FrzP.nil)) rfl ?_
  intro g2
  refine GL.buildS I0.mono (z := [LV.int .i64 0, LV.int .i64 0, LV.int .i64 0, LV.int .i64 0]) (cs := [_, _, _, _]) (n := 4) rfl rfl rfl (EvS.cons (by conv => lhs; whnf) (EvS.cons (by conv => lhs; whnf) (EvS.cons (by conv => lhs; whnf) (EvS.nil)))) rfl rfl ?_
  refine GL.buildS I0.mono (z := [LV.int .i64 0, LV.int .i64 0, LV.int .i64 0, LV.int .i64 0]) (cs := [_, _, _, _]) (n := 4) rfl rfl rfl (EvS.cons (by conv => lhs; whnf) (EvS.cons (by conv => lhs; whnf) (EvS.cons (by conv => lhs; whnf) (EvS.cons (by conv => lhs; whnf) (EvS.nil))))) rfl rfl ?_
  refine GL.buildS I0.mono (z := [LV.int .i64 0, LV.int .i64 0, LV.int .i64 0, LV.int .i64 0]) (cs := [_, _, _, _]) (n := 4) rfl rfl rfl (EvS.cons (by conv => lhs; whnf) (EvS.cons (by conv => lhs; whnf) (EvS.nil))) rfl rfl ?_
  refine GL.buildSlice0 I0.mono (sz := 4) (z := [LV.int .i64 0, LV.int .i64 0, LV.int .i64 0, LV.int .i64 0]) (es := em ns [⟨3, 0, 40, 2⟩, ⟨2, 30, 35, 5⟩, ⟨-2, 0, 50, 0⟩]) rfl rfl rfl rfl (by decide) (by decide) (by decide) (FrzP.cons (S := []) (T := []) (Frz.pures rfl) rfl (by decide) rfl (FrzP.cons (S := []) (T := []) (Frz.pures rfl) rfl (by decide) rfl (FrzP.cons (S := []) (T := []) (Frz.pures rfl) rfl (by decide) rfl (FrzP.nil)))) rfl ?_
  intro g6
  refine GL.buildS I0.mono (z := [LV.int .i64 0, LV.int .i64 0]) (cs := [_, _]) (n := 2) rfl rfl rfl (EvS.cons (by conv => lhs; whnf) (EvS.cons (by conv => lhs; whnf) (EvS.nil))) rfl rfl ?_
  refine GL.buildSlice0 I0.mono (sz := 2) (z := [LV.int .i64 0, LV.int .i64 0]) (es := em np [⟨2, 3⟩]) rfl rfl rfl rfl (by decide) (by decide) (by decide) (FrzP.cons (S := []) (T := []) (Frz.pures rfl) rfl (by decide) rfl (FrzP.nil)) rfl ?_
  intro g8
  refine GL.buildSlice0 I0.mono (sz := 1) (z := [LV.int .i64 0]) (es := em ni [0, 4, 6, 8]) rfl rfl rfl rfl (by decide) (by decide) (by decide) (FrzP.cons (S := []) (T := []) (Frz.aggc (S := []) (T := []) (Frz.pure rfl) Frz.aggn) rfl (by decide) rfl (FrzP.cons (S := []) (T := []) (Frz.aggc (S := []) (T := []) (Frz.pure rfl) Frz.aggn) rfl (by decide) rfl (FrzP.cons (S := []) (T := []) (Frz.aggc (S := []) (T := []) (Frz.pure rfl) Frz.aggn) rfl (by decide) rfl (FrzP.cons (S := []) (T := []) (Frz.aggc (S := []) (T := []) (Frz.pure rfl) Frz.aggn) rfl (by decide) rfl (FrzP.nil))))) rfl ?_
  intro g9
  refine GL.buildSlice0 I0.mono (sz := 1) (z := [LV.int .i64 0]) (es := em ni [5, 0, 2, 9]) rfl rfl rfl rfl (by decide) (by decide) (by decide) (FrzP.cons (S := []) (T := []) (Frz.aggc (S := []) (T := []) (Frz.pure rfl) Frz.aggn) rfl (by decide) rfl (FrzP.cons (S := []) (T := []) (Frz.aggc (S := []) (T := []) (Frz.pure rfl) Frz.aggn) rfl (by decide) rfl (FrzP.cons (S := []) (T := []) (Frz.aggc (S := []) (T := []) (Frz.pure rfl) Frz.aggn) rfl (by decide) rfl (FrzP.cons (S := []) (T := []) (Frz.aggc (S := []) (T := []) (Frz.pure rfl) Frz.aggn) rfl (by decide) rfl (FrzP.nil))))) rfl ?_
  intro g10
  refine GL.buildSlice0 I0.mono (sz := 1) (z := [LV.int .i64 0]) (es := em ni [7, 3, 0, 2]) rfl rfl rfl rfl (by decide) (by decide) (by decide) (FrzP.cons (S := []) (T := []) (Frz.aggc (S := []) (T := []) (Frz.pure rfl) Frz.aggn) rfl (by decide) rfl (FrzP.cons (S := []) (T := []) (Frz.aggc (S := []) (T := []) (Frz.pure rfl) Frz.aggn) rfl (by decide) rfl (FrzP.cons (S := []) (T := []) (Frz.aggc (S := []) (T := []) (Frz.pure rfl) Frz.aggn) rfl (by decide) rfl (FrzP.cons (S := []) (T := []) (Frz.aggc (S := []) (T := []) (Frz.pure rfl) Frz.aggn) rfl (by decide) rfl (FrzP.nil))))) rfl ?_
  intro g11
  refine GL.buildSlice0 I0.mono (sz := 1) (z := [LV.int .i64 0]) (es := em ni [1, 1, 1, 0]) rfl rfl rfl rfl (by decide) (by decide) (by decide) (FrzP.cons (S := []) (T := []) (Frz.aggc (S := []) (T := []) (Frz.pure rfl) Frz.aggn) rfl (by decide) rfl (FrzP.cons (S := []) (T := []) (Frz.aggc (S := []) (T := []) (Frz.pure rfl) Frz.aggn) rfl (by decide) rfl (FrzP.cons (S := []) (T := []) (Frz.aggc (S := []) (T := []) (Frz.pure rfl) Frz.aggn) rfl (by decide) rfl (FrzP.cons (S := []) (T := []) (Frz.aggc (S := []) (T := []) (Frz.pure rfl) Frz.aggn) rfl (by decide) rfl (FrzP.nil))))) rfl ?_
  intro g12
  refine GL.buildSliceM I0.mono (sz := 1) (z := [LV.nils]) (es := em nr [[0, 4, 6, 8], [5, 0, 2, 9], [7, 3, 0, 2], [1, 1, 1, 0]]) rfl rfl rfl rfl (by decide) (by decide) (by decide) (FrzP.cons (Frz.aggc (by first | exact Frz.pure rfl | exact Frz.nils | exact Frz.whole rfl rfl rfl rfl (by first | exact em_len _ _ | (rw [em_len]; omega))) Frz.aggn) rfl (by decide) rfl (FrzP.cons (Frz.aggc (by first | exact Frz.pure rfl | exact Frz.nils | exact Frz.whole rfl rfl rfl rfl (by first | exact em_len _ _ | (rw [em_len]; omega))) Frz.aggn) rfl (by decide) rfl (FrzP.cons (Frz.aggc (by first | exact Frz.pure rfl | exact Frz.nils | exact Frz.whole rfl rfl rfl rfl (by first | exact em_len _ _ | (rw [em_len]; omega))) Frz.aggn) rfl (by decide) rfl (FrzP.cons (Frz.aggc (by first | exact Frz.pure rfl | exact Frz.nils | exact Frz.whole rfl rfl rfl rfl (by first | exact em_len _ _ | (rw [em_len]; omega))) Frz.aggn) rfl (by decide) rfl (FrzP.nil))))) rfl rfl ?_
  intro g13
  refine GL.buildS I0.mono (z := [LV.nils, LV.nils, LV.nils, LV.nils]) (cs := [_, _, _, _]) (n := 4) rfl rfl rfl (EvS.cons (by conv => lhs; whnf) (EvS.cons (by conv => lhs; whnf) (EvS.cons (by conv => lhs; whnf) (EvS.cons (by conv => lhs; whnf) (EvS.nil))))) rfl rfl ?_
  refine GL.store I0.mono (n := 4) rfl rfl rfl rfl rfl rfl rfl rfl rfl rfl (Nat.le_of_ble_eq_true rfl) (by first | (conv => lhs; simp only [List.take_succ_cons, List.take_zero, List.drop_succ_cons, List.drop_zero, List.nil_append, List.cons_append, List.drop_nil, List.append_nil, List.take_nil, List.set_cons_zero, List.set_cons_succ, Nat.zero_add, ni, nr, nc, ns, np, ic, nt, ei, cellsL, nh, nl, u32]) | rfl) (by first | (conv => lhs; simp only [List.take_succ_cons, List.take_zero, List.drop_succ_cons, List.drop_zero, List.nil_append, List.cons_append, List.drop_nil, List.append_nil, List.take_nil, List.set_cons_zero, List.set_cons_succ, Nat.zero_add, ni, nr, nc, ns, np, ic, nt, ei, cellsL, nh, nl, u32]) | rfl) ?_
  refine GL.doneF ?_
  refine goOn ?_
  refine Wp.retI ?_
  refine RetX.ret ?_
  refine ⟨_, _, _, _, .cons (.cellA (n := 4) rfl rfl rfl (by simp) rfl rfl rfl (Nat.le_of_ble_eq_true rfl)) .nil, .frz (Frz.aggc (by first | exact Frz.pure rfl | exact Frz.nils | exact Frz.whole rfl rfl rfl rfl (by first | exact em_len _ _ | (rw [em_len]; omega))) (Frz.aggc (by first | exact Frz.pure rfl | exact Frz.nils | exact Frz.whole rfl rfl rfl rfl (by first | exact em_len _ _ | (rw [em_len]; omega))) (Frz.aggc (by first | exact Frz.pure rfl | exact Frz.nils | exact Frz.whole rfl rfl rfl rfl (by first | exact em_len _ _ | (rw [em_len]; omega))) (Frz.aggc (by first | exact Frz.pure rfl | exact Frz.nils | exact Frz.whole rfl rfl rfl rfl (by first | exact em_len _ _ | (rw [em_len]; omega))) Frz.aggn)))), List.nodup_nil, by simp, ?_⟩
  rfl

set_option maxRecDepth 100000 in
set_option maxHeartbeats 4000000 in
theorem law_TabForms (n : Int) : CallsV Try.prog 10 [.int .i64 n] (.bool true) := by
  refine CallsR.intro (I0.sound _) mix Try.func10 rfl rfl (by simp [Try.f10]) (by kernel_rfl) (nb := 0) ?_
  unfold Try.f10
  refine Wp.seqI ?_
  refine Wp.regI I0.mono ?_
  refine GL.assign I0.mono (by conv => lhs; whnf) ?_
  refine GL.doneF ?_
  refine goOn ?_
  refine Wp.seqI ?_
  refine Wp.regI I0.mono ?_
  refine GL.call0 I0.mono rfl (Frz.aggn) (hand5_ok) rfl rfl (fun _ => rfl) ?_
  refine GL.alloc I0.mono (cs := [LV.nils, LV.nils, LV.nils, LV.nils]) rfl rfl ?_
  intro g3
  refine GL.store I0.mono (n := 4) rfl rfl rfl rfl rfl rfl rfl rfl rfl rfl (Nat.le_of_ble_eq_true rfl) (by first | (conv => lhs; simp only [List.take_succ_cons, List.take_zero, List.drop_succ_cons, List.drop_zero, List.nil_append, List.cons_append, List.drop_nil, List.append_nil, List.take_nil, List.set_cons_zero, List.set_cons_succ, Nat.zero_add, ni, nr, nc, ns, np, ic, nt, ei, cellsL, nh, nl, u32]) | rfl) (by first | (conv => lhs; simp only [List.take_succ_cons, List.take_zero, List.drop_succ_cons, List.drop_zero, List.nil_append, List.cons_append, List.drop_nil, List.append_nil, List.take_nil, List.set_cons_zero, List.set_cons_succ, Nat.zero_add, ni, nr, nc, ns, np, ic, nt, ei, cellsL, nh, nl, u32]) | rfl) ?_
  refine GL.doneF ?_
  refine goOn ?_
  refine Wp.seqI ?_
  refine Wp.regD ?_
  first | refine GL.loadA I0.mono (n := 4) rfl rfl rfl rfl (by simp) rfl rfl (Nat.le_of_ble_eq_true rfl) (by first | (conv => lhs; simp only [List.take_succ_cons, List.take_zero, List.drop_succ_cons, List.drop_zero, List.nil_append, List.cons_append, List.drop_nil, List.append_nil, List.take_nil, List.set_cons_zero, List.set_cons_succ, Nat.zero_add, ni, nr, nc, ns, np, ic, nt, ei, cellsL, nh, nl, u32]) | rfl) ?_ | refine GL.loadFA I0.mono (n := 4) rfl rfl rfl rfl (Nat.le_of_ble_eq_true rfl) (by first | (conv => lhs; simp only [List.take_succ_cons, List.take_zero, List.drop_succ_cons, List.drop_zero, List.nil_append, List.cons_append, List.drop_nil, List.append_nil, List.take_nil, List.set_cons_zero, List.set_cons_succ, Nat.zero_add, ni, nr, nc, ns, np, ic, nt, ei, cellsL, nh, nl, u32]) | rfl) ?_
  refine GL.buildSlice0 I0.mono (sz := 1) (z := [LV.int .i64 0]) (es := em ni [1, 2, 3]) rfl rfl rfl rfl (by decide) (by decide) (by decide) (FrzP.cons (S := []) (T := []) (Frz.aggc (S := []) (T := []) (Frz.pure rfl) Frz.aggn) rfl (by decide) rfl (FrzP.cons (S := []) (T := []) (Frz.aggc (S := []) (T := []) (Frz.pure rfl) Frz.aggn) rfl (by decide) rfl (FrzP.cons (S := []) (T := []) (Frz.aggc (S := []) (T := []) (Frz.pure rfl) Frz.aggn) rfl (by decide) rfl (FrzP.nil)))) rfl ?_
  intro g20
  refine GL.callMW I0.mono (W := [1280]) rfl (Frz.aggc (Frz.aggc (by first | exact Frz.pure rfl | exact Frz.nils | exact Frz.whole rfl rfl rfl rfl (by first | exact em_len _ _ | (rw [em_len]; omega))) (Frz.aggc (by first | exact Frz.pure rfl | exact Frz.nils | exact Frz.whole rfl rfl rfl rfl (by first | exact em_len _ _ | (rw [em_len]; omega))) (Frz.aggc (by first | exact Frz.pure rfl | exact Frz.nils | exact Frz.whole rfl rfl rfl rfl (by first | exact em_len _ _ | (rw [em_len]; omega))) (Frz.aggc (by first | exact Frz.pure rfl | exact Frz.nils | exact Frz.whole rfl rfl rfl rfl (by first | exact em_len _ _ | (rw [em_len]; omega))) Frz.aggn)))) (Frz.aggc (Frz.pure rfl) (Frz.aggc (Frz.whole rfl rfl rfl rfl rfl) Frz.aggn))) heads5 rfl rfl rfl (fun _ => rfl) ?_
  first | refine GL.loadA I0.mono (n := 4) rfl rfl rfl rfl (by simp) rfl rfl (Nat.le_of_ble_eq_true rfl) (by first | (conv => lhs; simp only [List.take_succ_cons, List.take_zero, List.drop_succ_cons, List.drop_zero, List.nil_append, List.cons_append, List.drop_nil, List.append_nil, List.take_nil, List.set_cons_zero, List.set_cons_succ, Nat.zero_add, ni, nr, nc, ns, np, ic, nt, ei, cellsL, nh, nl, u32]) | rfl) ?_ | refine GL.loadFA I0.mono (n := 4) rfl rfl rfl rfl (Nat.le_of_ble_eq_true rfl) (by first | (conv => lhs; simp only [List.take_succ_cons, List.take_zero, List.drop_succ_cons, List.drop_zero, List.nil_append, List.cons_append, List.drop_nil, List.append_nil, List.take_nil, List.set_cons_zero, List.set_cons_succ, Nat.zero_add, ni, nr, nc, ns, np, ic, nt, ei, cellsL, nh, nl, u32]) | rfl) ?_
  refine GL.buildSlice0 I0.mono (sz := 1) (z := [LV.int .i64 0]) (es := em ni [1, 2, 3]) rfl rfl rfl rfl (by decide) (by decide) (by decide) (FrzP.cons (S := []) (T := []) (Frz.aggc (S := []) (T := []) (Frz.pure rfl) Frz.aggn) rfl (by decide) rfl (FrzP.cons (S := []) (T := []) (Frz.aggc (S := []) (T := []) (Frz.pure rfl) Frz.aggn) rfl (by decide) rfl (FrzP.cons (S := []) (T := []) (Frz.aggc (S := []) (T := []) (Frz.pure rfl) Frz.aggn) rfl (by decide) rfl (FrzP.nil)))) rfl ?_
  intro g23
  refine GL.callMW I0.mono (W := [1472]) rfl (Frz.aggc (Frz.aggc (by first | exact Frz.pure rfl | exact Frz.nils | exact Frz.whole rfl rfl rfl rfl (by first | exact em_len _ _ | (rw [em_len]; omega))) (Frz.aggc (by first | exact Frz.pure rfl | exact Frz.nils | exact Frz.whole rfl rfl rfl rfl (by first | exact em_len _ _ | (rw [em_len]; omega))) (Frz.aggc (by first | exact Frz.pure rfl | exact Frz.nils | exact Frz.whole rfl rfl rfl rfl (by first | exact em_len _ _ | (rw [em_len]; omega))) (Frz.aggc (by first | exact Frz.pure rfl | exact Frz.nils | exact Frz.whole rfl rfl rfl rfl (by first | exact em_len _ _ | (rw [em_len]; omega))) Frz.aggn)))) (Frz.aggc (Frz.pure rfl) (Frz.aggc (Frz.whole rfl rfl rfl rfl rfl) Frz.aggn))) tails5 rfl rfl rfl (fun _ => rfl) ?_
  refine GL.assign I0.mono (by conv => lhs; whnf) ?_
  refine GL.assign I0.mono (by conv => lhs; whnf) ?_
  refine GL.doneT (by kernel_rfl) ?_
  refine goOn ?_
  refine Wp.seqI ?_
  refine Wp.seqI ?_
  refine Wp.regI I0.mono ?_
  refine GL.move I0.mono (by conv => lhs; whnf) ?_
  first | refine GL.lenF I0.mono rfl rfl rfl ?_ | refine GL.lenO I0.mono rfl rfl rfl rfl ?_ | refine GL.lenN I0.mono rfl rfl ?_
  refine GL.bin I0.mono (v := .bool false) (by kernel_rfl) ?_
  refine GL.move I0.mono (by conv => lhs; whnf) ?_
  refine GL.guardT rfl ?_
  refine GL.move I0.mono (by conv => lhs; whnf) ?_
  refine GL.guardT rfl ?_
  first | refine GL.lenF I0.mono rfl rfl rfl ?_ | refine GL.lenO I0.mono rfl rfl rfl rfl ?_ | refine GL.lenN I0.mono rfl rfl ?_
  refine GL.guardT rfl ?_
  refine GL.bin I0.mono (v := .bool false) (by kernel_rfl) ?_
  refine GL.pick I0.mono rfl (by conv => lhs; whnf) ?_
  refine GL.doneF ?_
  refine goOn ?_
  refine Wp.condF rfl ?_
  refine Wp.skipI ?_
  refine goOn ?_
  refine Wp.seqI ?_
  refine Wp.seqI ?_
  refine Wp.regI I0.mono ?_
  refine GL.move I0.mono (by conv => lhs; whnf) ?_
  first | refine GL.indexAddrF I0.mono (sz := 7) rfl rfl rfl rfl (by decide) (by decide) (by intro e he; obtain ⟨a, -, rfl⟩ := List.mem_map.1 he; rfl) (by first | with_reducible exact Int.toNat_natCast _ | rfl) ?_ | refine GL.indexAddr I0.mono (sz := 7) rfl rfl rfl rfl rfl rfl rfl rfl (by decide) (by decide) (by first | (conv => lhs; simp only [Nat.zero_add, Int.toNat_natCast]) | rfl) ?_
  first | refine GL.loadA I0.mono (n := 7) rfl rfl rfl rfl (by simp) rfl rfl (Nat.le_of_ble_eq_true rfl) (by first | (conv => lhs; simp only [List.take_succ_cons, List.take_zero, List.drop_succ_cons, List.drop_zero, List.nil_append, List.cons_append, List.drop_nil, List.append_nil, List.take_nil, List.set_cons_zero, List.set_cons_succ, Nat.zero_add, ni, nr, nc, ns, np, ic, nt, ei, cellsL, nh, nl, u32]) | rfl) ?_ | refine GL.loadFA I0.mono (n := 7) rfl rfl rfl rfl (Nat.le_of_ble_eq_true rfl) (by first | (conv => lhs; simp only [List.take_succ_cons, List.take_zero, List.drop_succ_cons, List.drop_zero, List.nil_append, List.cons_append, List.drop_nil, List.append_nil, List.take_nil, List.set_cons_zero, List.set_cons_succ, Nat.zero_add, ni, nr, nc, ns, np, ic, nt, ei, cellsL, nh, nl, u32]) | rfl) ?_
  refine GL.buildS I0.mono (z := [LV.bool false, LV.int .i64 0, LV.int .i64 0, LV.int .i64 0, LV.int .u32 0, LV.int .u32 0, LV.int .i64 0]) (cs := [_, _, _, _, _, _, _]) (n := 7) rfl rfl rfl (EvS.cons (by conv => lhs; whnf) (EvS.cons (by conv => lhs; whnf) (EvS.nil))) rfl rfl ?_
  refine GL.bin I0.mono (v := .bool false) (by kernel_rfl) ?_
  refine GL.move I0.mono (by conv => lhs; whnf) ?_
  refine GL.guardT rfl ?_
  refine GL.move I0.mono (by conv => lhs; whnf) ?_
  refine GL.guardT rfl ?_
  first | refine GL.indexAddrF I0.mono (sz := 7) rfl rfl rfl rfl (by decide) (by decide) (by intro e he; obtain ⟨a, -, rfl⟩ := List.mem_map.1 he; rfl) (by first | with_reducible exact Int.toNat_natCast _ | rfl) ?_ | refine GL.indexAddr I0.mono (sz := 7) rfl rfl rfl rfl rfl rfl rfl rfl (by decide) (by decide) (by first | (conv => lhs; simp only [Nat.zero_add, Int.toNat_natCast]) | rfl) ?_
  refine GL.guardT rfl ?_
  first | refine GL.loadA I0.mono (n := 7) rfl rfl rfl rfl (by simp) rfl rfl (Nat.le_of_ble_eq_true rfl) (by first | (conv => lhs; simp only [List.take_succ_cons, List.take_zero, List.drop_succ_cons, List.drop_zero, List.nil_append, List.cons_append, List.drop_nil, List.append_nil, List.take_nil, List.set_cons_zero, List.set_cons_succ, Nat.zero_add, ni, nr, nc, ns, np, ic, nt, ei, cellsL, nh, nl, u32]) | rfl) ?_ | refine GL.loadFA I0.mono (n := 7) rfl rfl rfl rfl (Nat.le_of_ble_eq_true rfl) (by first | (conv => lhs; simp only [List.take_succ_cons, List.take_zero, List.drop_succ_cons, List.drop_zero, List.nil_append, List.cons_append, List.drop_nil, List.append_nil, List.take_nil, List.set_cons_zero, List.set_cons_succ, Nat.zero_add, ni, nr, nc, ns, np, ic, nt, ei, cellsL, nh, nl, u32]) | rfl) ?_
  refine GL.guardT rfl ?_
  refine GL.buildS I0.mono (z := [LV.bool false, LV.int .i64 0, LV.int .i64 0, LV.int .i64 0, LV.int .u32 0, LV.int .u32 0, LV.int .i64 0]) (cs := [_, _, _, _, _, _, _]) (n := 7) rfl rfl rfl (EvS.cons (by conv => lhs; whnf) (EvS.cons (by conv => lhs; whnf) (EvS.cons (by conv => lhs; whnf) (EvS.cons (by conv => lhs; whnf) (EvS.cons (by conv => lhs; whnf) (EvS.cons (by conv => lhs; whnf) (EvS.nil))))))) rfl rfl ?_
  refine GL.guardT rfl ?_
  refine GL.bin I0.mono (v := .bool false) (by kernel_rfl) ?_
  refine GL.pick I0.mono rfl (by conv => lhs; whnf) ?_
  refine GL.move I0.mono (by conv => lhs; whnf) ?_
  refine GL.guardT rfl ?_
  refine GL.move I0.mono (by conv => lhs; whnf) ?_
  refine GL.guardT rfl ?_
  first | refine GL.indexAddrF I0.mono (sz := 7) rfl rfl rfl rfl (by decide) (by decide) (by intro e he; obtain ⟨a, -, rfl⟩ := List.mem_map.1 he; rfl) (by first | with_reducible exact Int.toNat_natCast _ | rfl) ?_ | refine GL.indexAddr I0.mono (sz := 7) rfl rfl rfl rfl rfl rfl rfl rfl (by decide) (by decide) (by first | (conv => lhs; simp only [Nat.zero_add, Int.toNat_natCast]) | rfl) ?_
  refine GL.guardT rfl ?_
  first | refine GL.loadA I0.mono (n := 7) rfl rfl rfl rfl (by simp) rfl rfl (Nat.le_of_ble_eq_true rfl) (by first | (conv => lhs; simp only [List.take_succ_cons, List.take_zero, List.drop_succ_cons, List.drop_zero, List.nil_append, List.cons_append, List.drop_nil, List.append_nil, List.take_nil, List.set_cons_zero, List.set_cons_succ, Nat.zero_add, ni, nr, nc, ns, np, ic, nt, ei, cellsL, nh, nl, u32]) | rfl) ?_ | refine GL.loadFA I0.mono (n := 7) rfl rfl rfl rfl (Nat.le_of_ble_eq_true rfl) (by first | (conv => lhs; simp only [List.take_succ_cons, List.take_zero, List.drop_succ_cons, List.drop_zero, List.nil_append, List.cons_append, List.drop_nil, List.append_nil, List.take_nil, List.set_cons_zero, List.set_cons_succ, Nat.zero_add, ni, nr, nc, ns, np, ic, nt, ei, cellsL, nh, nl, u32]) | rfl) ?_
  refine GL.guardT rfl ?_
  refine GL.buildS I0.mono (z := [LV.bool false, LV.int .i64 0, LV.int .i64 0, LV.int .i64 0, LV.int .u32 0, LV.int .u32 0, LV.int .i64 0]) (cs := [_, _, _, _, _, _, _]) (n := 7) rfl rfl rfl (EvS.cons (by conv => lhs; whnf) (EvS.cons (by conv => lhs; whnf) (EvS.cons (by conv => lhs; whnf) (EvS.cons (by conv => lhs; whnf) (EvS.cons (by conv => lhs; whnf) (EvS.cons (by conv => lhs; whnf) (EvS.cons (by conv => lhs; whnf) (EvS.nil)))))))) rfl rfl ?_
  refine GL.guardT rfl ?_
  refine GL.bin I0.mono (v := .bool false) (by kernel_rfl) ?_
  refine GL.pick I0.mono rfl (by conv => lhs; whnf) ?_
  refine GL.move I0.mono (by conv => lhs; whnf) ?_
  refine GL.guardT rfl ?_
  refine GL.move I0.mono (by conv => lhs; whnf) ?_
  refine GL.guardT rfl ?_
  first | refine GL.indexAddrF I0.mono (sz := 7) rfl rfl rfl rfl (by decide) (by decide) (by intro e he; obtain ⟨a, -, rfl⟩ := List.mem_map.1 he; rfl) (by first | with_reducible exact Int.toNat_natCast _ | rfl) ?_ | refine GL.indexAddr I0.mono (sz := 7) rfl rfl rfl rfl rfl rfl rfl rfl (by decide) (by decide) (by first | (conv => lhs; simp only [Nat.zero_add, Int.toNat_natCast]) | rfl) ?_
  refine GL.guardT rfl ?_
  first | refine GL.loadA I0.mono (n := 7) rfl rfl rfl rfl (by simp) rfl rfl (Nat.le_of_ble_eq_true rfl) (by first | (conv => lhs; simp only [List.take_succ_cons, List.take_zero, List.drop_succ_cons, List.drop_zero, List.nil_append, List.cons_append, List.drop_nil, List.append_nil, List.take_nil, List.set_cons_zero, List.set_cons_succ, Nat.zero_add, ni, nr, nc, ns, np, ic, nt, ei, cellsL, nh, nl, u32]) | rfl) ?_ | refine GL.loadFA I0.mono (n := 7) rfl rfl rfl rfl (Nat.le_of_ble_eq_true rfl) (by first | (conv => lhs; simp only [List.take_succ_cons, List.take_zero, List.drop_succ_cons, List.drop_zero, List.nil_append, List.cons_append, List.drop_nil, List.append_nil, List.take_nil, List.set_cons_zero, List.set_cons_succ, Nat.zero_add, ni, nr, nc, ns, np, ic, nt, ei, cellsL, nh, nl, u32]) | rfl) ?_
  refine GL.guardT rfl ?_
  refine GL.buildS I0.mono (z := [LV.bool false, LV.int .i64 0, LV.int .i64 0, LV.int .i64 0, LV.int .u32 0, LV.int .u32 0, LV.int .i64 0]) (cs := [_, _, _, _, _, _, _]) (n := 7) rfl rfl rfl (EvS.cons (by conv => lhs; whnf) (EvS.cons (by conv => lhs; whnf) (EvS.cons (by conv => lhs; whnf) (EvS.cons (by conv => lhs; whnf) (EvS.cons (by conv => lhs; whnf) (EvS.cons (by conv => lhs; whnf) (EvS.nil))))))) rfl rfl ?_
  refine GL.guardT rfl ?_
  refine GL.bin I0.mono (v := .bool false) (by kernel_rfl) ?_
  refine GL.pick I0.mono rfl (by conv => lhs; whnf) ?_
  refine GL.doneF ?_
  refine goOn ?_
  refine Wp.condF rfl ?_
  refine Wp.skipI ?_
  refine goOn ?_
  refine Wp.seqI ?_
  refine Wp.seqI ?_
  refine Wp.regI I0.mono ?_
  refine GL.move I0.mono (by conv => lhs; whnf) ?_
  first | refine GL.indexAddrF I0.mono (sz := 8) rfl rfl rfl rfl (by decide) (by decide) (by intro e he; obtain ⟨a, -, rfl⟩ := List.mem_map.1 he; rfl) (by first | with_reducible exact Int.toNat_natCast _ | rfl) ?_ | refine GL.indexAddr I0.mono (sz := 8) rfl rfl rfl rfl rfl rfl rfl rfl (by decide) (by decide) (by first | (conv => lhs; simp only [Nat.zero_add, Int.toNat_natCast]) | rfl) ?_
  first | refine GL.loadA I0.mono (n := 8) rfl rfl rfl rfl (by simp) rfl rfl (Nat.le_of_ble_eq_true rfl) (by first | (conv => lhs; simp only [List.take_succ_cons, List.take_zero, List.drop_succ_cons, List.drop_zero, List.nil_append, List.cons_append, List.drop_nil, List.append_nil, List.take_nil, List.set_cons_zero, List.set_cons_succ, Nat.zero_add, ni, nr, nc, ns, np, ic, nt, ei, cellsL, nh, nl, u32]) | rfl) ?_ | refine GL.loadFA I0.mono (n := 8) rfl rfl rfl rfl (Nat.le_of_ble_eq_true rfl) (by first | (conv => lhs; simp only [List.take_succ_cons, List.take_zero, List.drop_succ_cons, List.drop_zero, List.nil_append, List.cons_append, List.drop_nil, List.append_nil, List.take_nil, List.set_cons_zero, List.set_cons_succ, Nat.zero_add, ni, nr, nc, ns, np, ic, nt, ei, cellsL, nh, nl, u32]) | rfl) ?_
  refine GL.buildS I0.mono (z := [LV.bool false, LV.int .i64 0, LV.int .i64 0, LV.int .i64 0, LV.int .i64 0, LV.int .u32 0, LV.int .u32 0, LV.int .i64 0]) (cs := [_, _, _, _, _, _, _, _]) (n := 8) rfl rfl rfl (EvS.cons (by conv => lhs; whnf) (EvS.cons (by conv => lhs; whnf) (EvS.nil))) rfl rfl ?_
  refine GL.bin I0.mono (v := .bool false) (by kernel_rfl) ?_
  refine GL.move I0.mono (by conv => lhs; whnf) ?_
  refine GL.guardT rfl ?_
  refine GL.move I0.mono (by conv => lhs; whnf) ?_
  refine GL.guardT rfl ?_
  first | refine GL.indexAddrF I0.mono (sz := 8) rfl rfl rfl rfl (by decide) (by decide) (by intro e he; obtain ⟨a, -, rfl⟩ := List.mem_map.1 he; rfl) (by first | with_reducible exact Int.toNat_natCast _ | rfl) ?_ | refine GL.indexAddr I0.mono (sz := 8) rfl rfl rfl rfl rfl rfl rfl rfl (by decide) (by decide) (by first | (conv => lhs; simp only [Nat.zero_add, Int.toNat_natCast]) | rfl) ?_
  refine GL.guardT rfl ?_
  first | refine GL.loadA I0.mono (n := 8) rfl rfl rfl rfl (by simp) rfl rfl (Nat.le_of_ble_eq_true rfl) (by first | (conv => lhs; simp only [List.take_succ_cons, List.take_zero, List.drop_succ_cons, List.drop_zero, List.nil_append, List.cons_append, List.drop_nil, List.append_nil, List.take_nil, List.set_cons_zero, List.set_cons_succ, Nat.zero_add, ni, nr, nc, ns, np, ic, nt, ei, cellsL, nh, nl, u32]) | rfl) ?_ | refine GL.loadFA I0.mono (n := 8) rfl rfl rfl rfl (Nat.le_of_ble_eq_true rfl) (by first | (conv => lhs; simp only [List.take_succ_cons, List.take_zero, List.drop_succ_cons, List.drop_zero, List.nil_append, List.cons_append, List.drop_nil, List.append_nil, List.take_nil, List.set_cons_zero, List.set_cons_succ, Nat.zero_add, ni, nr, nc, ns, np, ic, nt, ei, cellsL, nh, nl, u32]) | rfl) ?_
  refine GL.guardT rfl ?_
  refine GL.buildS I0.mono (z := [LV.bool false, LV.int .i64 0, LV.int .i64 0, LV.int .i64 0, LV.int .i64 0, LV.int .u32 0, LV.int .u32 0, LV.int .i64 0]) (cs := [_, _, _, _, _, _, _, _]) (n := 8) rfl rfl rfl (EvS.cons (by conv => lhs; whnf) (EvS.cons (by conv => lhs; whnf) (EvS.cons (by conv => lhs; whnf) (EvS.cons (by conv => lhs; whnf) (EvS.cons (by conv => lhs; whnf) (EvS.cons (by conv => lhs; whnf) (EvS.cons (by conv => lhs; whnf) (EvS.nil)))))))) rfl rfl ?_
  refine GL.guardT rfl ?_
  refine GL.bin I0.mono (v := .bool false) (by kernel_rfl) ?_
  refine GL.pick I0.mono rfl (by conv => lhs; whnf) ?_
  refine GL.move I0.mono (by conv => lhs; whnf) ?_
  refine GL.guardT rfl ?_
  refine GL.move I0.mono (by conv => lhs; whnf) ?_
  refine GL.guardT rfl ?_
  first | refine GL.indexAddrF I0.mono (sz := 8) rfl rfl rfl rfl (by decide) (by decide) (by intro e he; obtain ⟨a, -, rfl⟩ := List.mem_map.1 he; rfl) (by first | with_reducible exact Int.toNat_natCast _ | rfl) ?_ | refine GL.indexAddr I0.mono (sz := 8) rfl rfl rfl rfl rfl rfl rfl rfl (by decide) (by decide) (by first | (conv => lhs; simp only [Nat.zero_add, Int.toNat_natCast]) | rfl) ?_
  refine GL.guardT rfl ?_
  first | refine GL.loadA I0.mono (n := 8) rfl rfl rfl rfl (by simp) rfl rfl (Nat.le_of_ble_eq_true rfl) (by first | (conv => lhs; simp only [List.take_succ_cons, List.take_zero, List.drop_succ_cons, List.drop_zero, List.nil_append, List.cons_append, List.drop_nil, List.append_nil, List.take_nil, List.set_cons_zero, List.set_cons_succ, Nat.zero_add, ni, nr, nc, ns, np, ic, nt, ei, cellsL, nh, nl, u32]) | rfl) ?_ | refine GL.loadFA I0.mono (n := 8) rfl rfl rfl rfl (Nat.le_of_ble_eq_true rfl) (by first | (conv => lhs; simp only [List.take_succ_cons, List.take_zero, List.drop_succ_cons, List.drop_zero, List.nil_append, List.cons_append, List.drop_nil, List.append_nil, List.take_nil, List.set_cons_zero, List.set_cons_succ, Nat.zero_add, ni, nr, nc, ns, np, ic, nt, ei, cellsL, nh, nl, u32]) | rfl) ?_
  refine GL.guardT rfl ?_
  refine GL.buildS I0.mono (z := [LV.bool false, LV.int .i64 0, LV.int .i64 0, LV.int .i64 0, LV.int .i64 0, LV.int .u32 0, LV.int .u32 0, LV.int .i64 0]) (cs := [_, _, _, _, _, _, _, _]) (n := 8) rfl rfl rfl (EvS.cons (by conv => lhs; whnf) (EvS.cons (by conv => lhs; whnf) (EvS.cons (by conv => lhs; whnf) (EvS.cons (by conv => lhs; whnf) (EvS.cons (by conv => lhs; whnf) (EvS.cons (by conv => lhs; whnf) (EvS.nil))))))) rfl rfl ?_
  refine GL.guardT rfl ?_
  refine GL.bin I0.mono (v := .bool false) (by kernel_rfl) ?_
  refine GL.pick I0.mono rfl (by conv => lhs; whnf) ?_
  refine GL.move I0.mono (by conv => lhs; whnf) ?_
  refine GL.guardT rfl ?_
  refine GL.move I0.mono (by conv => lhs; whnf) ?_
  refine GL.guardT rfl ?_
  first | refine GL.indexAddrF I0.mono (sz := 8) rfl rfl rfl rfl (by decide) (by decide) (by intro e he; obtain ⟨a, -, rfl⟩ := List.mem_map.1 he; rfl) (by first | with_reducible exact Int.toNat_natCast _ | rfl) ?_ | refine GL.indexAddr I0.mono (sz := 8) rfl rfl rfl rfl rfl rfl rfl rfl (by decide) (by decide) (by first | (conv => lhs; simp only [Nat.zero_add, Int.toNat_natCast]) | rfl) ?_
  refine GL.guardT rfl ?_
  first | refine GL.loadA I0.mono (n := 8) rfl rfl rfl rfl (by simp) rfl rfl (Nat.le_of_ble_eq_true rfl) (by first | (conv => lhs; simp only [List.take_succ_cons, List.take_zero, List.drop_succ_cons, List.drop_zero, List.nil_append, List.cons_append, List.drop_nil, List.append_nil, List.take_nil, List.set_cons_zero, List.set_cons_succ, Nat.zero_add, ni, nr, nc, ns, np, ic, nt, ei, cellsL, nh, nl, u32]) | rfl) ?_ | refine GL.loadFA I0.mono (n := 8) rfl rfl rfl rfl (Nat.le_of_ble_eq_true rfl) (by first | (conv => lhs; simp only [List.take_succ_cons, List.take_zero, List.drop_succ_cons, List.drop_zero, List.nil_append, List.cons_append, List.drop_nil, List.append_nil, List.take_nil, List.set_cons_zero, List.set_cons_succ, Nat.zero_add, ni, nr, nc, ns, np, ic, nt, ei, cellsL, nh, nl, u32]) | rfl) ?_
  refine GL.guardT rfl ?_
  refine GL.buildS I0.mono (z := [LV.bool false, LV.int .i64 0, LV.int .i64 0, LV.int .i64 0, LV.int .i64 0, LV.int .u32 0, LV.int .u32 0, LV.int .i64 0]) (cs := [_, _, _, _, _, _, _, _]) (n := 8) rfl rfl rfl (EvS.cons (by conv => lhs; whnf) (EvS.cons (by conv => lhs; whnf) (EvS.cons (by conv => lhs; whnf) (EvS.cons (by conv => lhs; whnf) (EvS.cons (by conv => lhs; whnf) (EvS.cons (by conv => lhs; whnf) (EvS.nil))))))) rfl rfl ?_
  refine GL.guardT rfl ?_
  refine GL.bin I0.mono (v := .bool false) (by kernel_rfl) ?_
  refine GL.pick I0.mono rfl (by conv => lhs; whnf) ?_
  refine GL.doneF ?_
  refine goOn ?_
  refine Wp.condF rfl ?_
  refine Wp.skipI ?_
  refine goOn ?_
  refine Wp.seqI ?_
  refine Wp.regI I0.mono ?_
  refine GL.move I0.mono (by conv => lhs; whnf) ?_
  refine GL.call0 I0.mono rfl (Frz.aggc (by first | exact Frz.pure rfl | exact Frz.pures rfl | exact Frz.nils | exact Frz.whole rfl rfl rfl rfl (by first | exact em_len _ _ | (rw [em_len]; omega)) | exact (Frz.aggc (by first | exact Frz.pure rfl | exact Frz.nils | exact Frz.whole rfl rfl rfl rfl (by first | exact em_len _ _ | (rw [em_len]; omega))) (Frz.aggc (by first | exact Frz.pure rfl | exact Frz.nils | exact Frz.whole rfl rfl rfl rfl (by first | exact em_len _ _ | (rw [em_len]; omega))) (Frz.aggc (by first | exact Frz.pure rfl | exact Frz.nils | exact Frz.whole rfl rfl rfl rfl (by first | exact em_len _ _ | (rw [em_len]; omega))) (Frz.aggc (by first | exact Frz.pure rfl | exact Frz.nils | exact Frz.whole rfl rfl rfl rfl (by first | exact em_len _ _ | (rw [em_len]; omega))) Frz.aggn))))) (Frz.aggc (by first | exact Frz.pure rfl | exact Frz.pures rfl | exact Frz.nils | exact Frz.whole rfl rfl rfl rfl (by first | exact em_len _ _ | (rw [em_len]; omega)) | exact (Frz.aggc (by first | exact Frz.pure rfl | exact Frz.nils | exact Frz.whole rfl rfl rfl rfl (by first | exact em_len _ _ | (rw [em_len]; omega))) (Frz.aggc (by first | exact Frz.pure rfl | exact Frz.nils | exact Frz.whole rfl rfl rfl rfl (by first | exact em_len _ _ | (rw [em_len]; omega))) (Frz.aggc (by first | exact Frz.pure rfl | exact Frz.nils | exact Frz.whole rfl rfl rfl rfl (by first | exact em_len _ _ | (rw [em_len]; omega))) (Frz.aggc (by first | exact Frz.pure rfl | exact Frz.nils | exact Frz.whole rfl rfl rfl rfl (by first | exact em_len _ _ | (rw [em_len]; omega))) Frz.aggn))))) (Frz.aggn))) (within_ok n 1000 (by decide)) rfl rfl (fun _ => rfl) ?_
  have hw := within_in (a := n) (n := 1000) (by decide)
  refine GL.addR I0.mono rfl rfl (by omega) ?_
  refine GL.assign I0.mono (by conv => lhs; whnf) ?_
  refine GL.doneF ?_
  refine goOn ?_
  refine Wp.seqI ?_
  refine Wp.regD ?_
  first | refine GL.loadA I0.mono (n := 4) rfl rfl rfl rfl (by simp) rfl rfl (Nat.le_of_ble_eq_true rfl) (by first | (conv => lhs; simp only [List.take_succ_cons, List.take_zero, List.drop_succ_cons, List.drop_zero, List.nil_append, List.cons_append, List.drop_nil, List.append_nil, List.take_nil, List.set_cons_zero, List.set_cons_succ, Nat.zero_add, ni, nr, nc, ns, np, ic, nt, ei, cellsL, nh, nl, u32]) | rfl) ?_ | refine GL.loadFA I0.mono (n := 4) rfl rfl rfl rfl (Nat.le_of_ble_eq_true rfl) (by first | (conv => lhs; simp only [List.take_succ_cons, List.take_zero, List.drop_succ_cons, List.drop_zero, List.nil_append, List.cons_append, List.drop_nil, List.append_nil, List.take_nil, List.set_cons_zero, List.set_cons_succ, Nat.zero_add, ni, nr, nc, ns, np, ic, nt, ei, cellsL, nh, nl, u32]) | rfl) ?_
  refine GL.move I0.mono (by conv => lhs; whnf) ?_
  first | refine GL.indexAddrF I0.mono (sz := 7) rfl rfl rfl rfl (by decide) (by decide) (by intro e he; obtain ⟨a, -, rfl⟩ := List.mem_map.1 he; rfl) (by first | with_reducible exact Int.toNat_natCast _ | rfl) ?_ | refine GL.indexAddr I0.mono (sz := 7) rfl rfl rfl rfl rfl rfl rfl rfl (by decide) (by decide) (by first | (conv => lhs; simp only [Nat.zero_add, Int.toNat_natCast]) | rfl) ?_
  first | refine GL.loadA I0.mono (n := 7) rfl rfl rfl rfl (by simp) rfl rfl (Nat.le_of_ble_eq_true rfl) (by first | (conv => lhs; simp only [List.take_succ_cons, List.take_zero, List.drop_succ_cons, List.drop_zero, List.nil_append, List.cons_append, List.drop_nil, List.append_nil, List.take_nil, List.set_cons_zero, List.set_cons_succ, Nat.zero_add, ni, nr, nc, ns, np, ic, nt, ei, cellsL, nh, nl, u32]) | rfl) ?_ | refine GL.loadFA I0.mono (n := 7) rfl rfl rfl rfl (Nat.le_of_ble_eq_true rfl) (by first | (conv => lhs; simp only [List.take_succ_cons, List.take_zero, List.drop_succ_cons, List.drop_zero, List.nil_append, List.cons_append, List.drop_nil, List.append_nil, List.take_nil, List.set_cons_zero, List.set_cons_succ, Nat.zero_add, ni, nr, nc, ns, np, ic, nt, ei, cellsL, nh, nl, u32]) | rfl) ?_
  refine GL.move I0.mono (by conv => lhs; whnf) ?_
  first | refine GL.indexAddrF I0.mono (sz := 8) rfl rfl rfl rfl (by decide) (by decide) (by intro e he; obtain ⟨a, -, rfl⟩ := List.mem_map.1 he; rfl) (by first | with_reducible exact Int.toNat_natCast _ | rfl) ?_ | refine GL.indexAddr I0.mono (sz := 8) rfl rfl rfl rfl rfl rfl rfl rfl (by decide) (by decide) (by first | (conv => lhs; simp only [Nat.zero_add, Int.toNat_natCast]) | rfl) ?_
  first | refine GL.loadA I0.mono (n := 8) rfl rfl rfl rfl (by simp) rfl rfl (Nat.le_of_ble_eq_true rfl) (by first | (conv => lhs; simp only [List.take_succ_cons, List.take_zero, List.drop_succ_cons, List.drop_zero, List.nil_append, List.cons_append, List.drop_nil, List.append_nil, List.take_nil, List.set_cons_zero, List.set_cons_succ, Nat.zero_add, ni, nr, nc, ns, np, ic, nt, ei, cellsL, nh, nl, u32]) | rfl) ?_ | refine GL.loadFA I0.mono (n := 8) rfl rfl rfl rfl (Nat.le_of_ble_eq_true rfl) (by first | (conv => lhs; simp only [List.take_succ_cons, List.take_zero, List.drop_succ_cons, List.drop_zero, List.nil_append, List.cons_append, List.drop_nil, List.append_nil, List.take_nil, List.set_cons_zero, List.set_cons_succ, Nat.zero_add, ni, nr, nc, ns, np, ic, nt, ei, cellsL, nh, nl, u32]) | rfl) ?_
  refine GL.call0 I0.mono rfl (Frz.aggc (Frz.aggc (by first | exact Frz.pure rfl | exact Frz.nils | exact Frz.whole rfl rfl rfl rfl (by first | exact em_len _ _ | (rw [em_len]; omega))) (Frz.aggc (by first | exact Frz.pure rfl | exact Frz.nils | exact Frz.whole rfl rfl rfl rfl (by first | exact em_len _ _ | (rw [em_len]; omega))) (Frz.aggc (by first | exact Frz.pure rfl | exact Frz.nils | exact Frz.whole rfl rfl rfl rfl (by first | exact em_len _ _ | (rw [em_len]; omega))) (Frz.aggc (by first | exact Frz.pure rfl | exact Frz.nils | exact Frz.whole rfl rfl rfl rfl (by first | exact em_len _ _ | (rw [em_len]; omega))) Frz.aggn)))) (Frz.aggc (Frz.pure rfl) (Frz.aggc (Frz.aggc (Frz.pure rfl) (Frz.aggc (Frz.pure rfl) (Frz.aggc (Frz.pure rfl) (Frz.aggc (Frz.pure rfl) (Frz.aggc (Frz.pure rfl) (Frz.aggc (Frz.pure rfl) (Frz.aggc (Frz.pure rfl) Frz.aggn))))))) (Frz.aggc (Frz.aggc (Frz.pure rfl) (Frz.aggc (Frz.pure rfl) (Frz.aggc (Frz.pure rfl) (Frz.aggc (Frz.pure rfl) (Frz.aggc (Frz.pure rfl) (Frz.aggc (Frz.pure rfl) (Frz.aggc (Frz.pure rfl) (Frz.aggc (Frz.pure rfl) Frz.aggn)))))))) Frz.aggn)))) (meet_is short5 (h := ⟨true, 2, 35, 5, 4, 6, 6⟩) (t := ⟨true, 3, 50, -2, 0, 4, 8, 1⟩) (o := some 9) (by decide +kernel)) rfl rfl (fun _ => rfl) ?_
  refine GL.move I0.mono (by conv => lhs; whnf) ?_
  refine GL.extract I0.mono rfl rfl ?_
  refine GL.extract I0.mono rfl rfl ?_
  refine GL.assign I0.mono (by conv => lhs; whnf) ?_
  refine GL.assign I0.mono (by conv => lhs; whnf) ?_
  refine GL.doneT (by kernel_rfl) ?_
  refine goOn ?_
  refine Wp.seqI ?_
  refine Wp.regD ?_
  first | refine GL.loadA I0.mono (n := 4) rfl rfl rfl rfl (by simp) rfl rfl (Nat.le_of_ble_eq_true rfl) (by first | (conv => lhs; simp only [List.take_succ_cons, List.take_zero, List.drop_succ_cons, List.drop_zero, List.nil_append, List.cons_append, List.drop_nil, List.append_nil, List.take_nil, List.set_cons_zero, List.set_cons_succ, Nat.zero_add, ni, nr, nc, ns, np, ic, nt, ei, cellsL, nh, nl, u32]) | rfl) ?_ | refine GL.loadFA I0.mono (n := 4) rfl rfl rfl rfl (Nat.le_of_ble_eq_true rfl) (by first | (conv => lhs; simp only [List.take_succ_cons, List.take_zero, List.drop_succ_cons, List.drop_zero, List.nil_append, List.cons_append, List.drop_nil, List.append_nil, List.take_nil, List.set_cons_zero, List.set_cons_succ, Nat.zero_add, ni, nr, nc, ns, np, ic, nt, ei, cellsL, nh, nl, u32]) | rfl) ?_
  refine GL.move I0.mono (by conv => lhs; whnf) ?_
  first | refine GL.indexAddrF I0.mono (sz := 7) rfl rfl rfl rfl (by decide) (by decide) (by intro e he; obtain ⟨a, -, rfl⟩ := List.mem_map.1 he; rfl) (by first | with_reducible exact Int.toNat_natCast _ | rfl) ?_ | refine GL.indexAddr I0.mono (sz := 7) rfl rfl rfl rfl rfl rfl rfl rfl (by decide) (by decide) (by first | (conv => lhs; simp only [Nat.zero_add, Int.toNat_natCast]) | rfl) ?_
  first | refine GL.loadA I0.mono (n := 7) rfl rfl rfl rfl (by simp) rfl rfl (Nat.le_of_ble_eq_true rfl) (by first | (conv => lhs; simp only [List.take_succ_cons, List.take_zero, List.drop_succ_cons, List.drop_zero, List.nil_append, List.cons_append, List.drop_nil, List.append_nil, List.take_nil, List.set_cons_zero, List.set_cons_succ, Nat.zero_add, ni, nr, nc, ns, np, ic, nt, ei, cellsL, nh, nl, u32]) | rfl) ?_ | refine GL.loadFA I0.mono (n := 7) rfl rfl rfl rfl (Nat.le_of_ble_eq_true rfl) (by first | (conv => lhs; simp only [List.take_succ_cons, List.take_zero, List.drop_succ_cons, List.drop_zero, List.nil_append, List.cons_append, List.drop_nil, List.append_nil, List.take_nil, List.set_cons_zero, List.set_cons_succ, Nat.zero_add, ni, nr, nc, ns, np, ic, nt, ei, cellsL, nh, nl, u32]) | rfl) ?_
  refine GL.move I0.mono (by conv => lhs; whnf) ?_
  first | refine GL.indexAddrF I0.mono (sz := 8) rfl rfl rfl rfl (by decide) (by decide) (by intro e he; obtain ⟨a, -, rfl⟩ := List.mem_map.1 he; rfl) (by first | with_reducible exact Int.toNat_natCast _ | rfl) ?_ | refine GL.indexAddr I0.mono (sz := 8) rfl rfl rfl rfl rfl rfl rfl rfl (by decide) (by decide) (by first | (conv => lhs; simp only [Nat.zero_add, Int.toNat_natCast]) | rfl) ?_
  first | refine GL.loadA I0.mono (n := 8) rfl rfl rfl rfl (by simp) rfl rfl (Nat.le_of_ble_eq_true rfl) (by first | (conv => lhs; simp only [List.take_succ_cons, List.take_zero, List.drop_succ_cons, List.drop_zero, List.nil_append, List.cons_append, List.drop_nil, List.append_nil, List.take_nil, List.set_cons_zero, List.set_cons_succ, Nat.zero_add, ni, nr, nc, ns, np, ic, nt, ei, cellsL, nh, nl, u32]) | rfl) ?_ | refine GL.loadFA I0.mono (n := 8) rfl rfl rfl rfl (Nat.le_of_ble_eq_true rfl) (by first | (conv => lhs; simp only [List.take_succ_cons, List.take_zero, List.drop_succ_cons, List.drop_zero, List.nil_append, List.cons_append, List.drop_nil, List.append_nil, List.take_nil, List.set_cons_zero, List.set_cons_succ, Nat.zero_add, ni, nr, nc, ns, np, ic, nt, ei, cellsL, nh, nl, u32]) | rfl) ?_
  refine GL.call0 I0.mono rfl (Frz.aggc (Frz.aggc (by first | exact Frz.pure rfl | exact Frz.nils | exact Frz.whole rfl rfl rfl rfl (by first | exact em_len _ _ | (rw [em_len]; omega))) (Frz.aggc (by first | exact Frz.pure rfl | exact Frz.nils | exact Frz.whole rfl rfl rfl rfl (by first | exact em_len _ _ | (rw [em_len]; omega))) (Frz.aggc (by first | exact Frz.pure rfl | exact Frz.nils | exact Frz.whole rfl rfl rfl rfl (by first | exact em_len _ _ | (rw [em_len]; omega))) (Frz.aggc (by first | exact Frz.pure rfl | exact Frz.nils | exact Frz.whole rfl rfl rfl rfl (by first | exact em_len _ _ | (rw [em_len]; omega))) Frz.aggn)))) (Frz.aggc (Frz.pure rfl) (Frz.aggc (Frz.aggc (Frz.pure rfl) (Frz.aggc (Frz.pure rfl) (Frz.aggc (Frz.pure rfl) (Frz.aggc (Frz.pure rfl) (Frz.aggc (Frz.pure rfl) (Frz.aggc (Frz.pure rfl) (Frz.aggc (Frz.pure rfl) Frz.aggn))))))) (Frz.aggc (Frz.aggc (Frz.pure rfl) (Frz.aggc (Frz.pure rfl) (Frz.aggc (Frz.pure rfl) (Frz.aggc (Frz.pure rfl) (Frz.aggc (Frz.pure rfl) (Frz.aggc (Frz.pure rfl) (Frz.aggc (Frz.pure rfl) (Frz.aggc (Frz.pure rfl) Frz.aggn)))))))) Frz.aggn)))) (meet_is short5 (h := ⟨true, 1, 16, 3, 0, 2, 4⟩) (t := ⟨true, 3, 50, -2, 0, 4, 8, 1⟩) (o := none) (by decide +kernel)) rfl rfl (fun _ => rfl) ?_
  refine GL.move I0.mono (by conv => lhs; whnf) ?_
  refine GL.extract I0.mono rfl rfl ?_
  refine GL.extract I0.mono rfl rfl ?_
  refine GL.assign I0.mono (by conv => lhs; whnf) ?_
  refine GL.assign I0.mono (by conv => lhs; whnf) ?_
  refine GL.doneT (by kernel_rfl) ?_
  refine goOn ?_
  refine Wp.seqI ?_
  refine Wp.regD ?_
  first | refine GL.loadA I0.mono (n := 4) rfl rfl rfl rfl (by simp) rfl rfl (Nat.le_of_ble_eq_true rfl) (by first | (conv => lhs; simp only [List.take_succ_cons, List.take_zero, List.drop_succ_cons, List.drop_zero, List.nil_append, List.cons_append, List.drop_nil, List.append_nil, List.take_nil, List.set_cons_zero, List.set_cons_succ, Nat.zero_add, ni, nr, nc, ns, np, ic, nt, ei, cellsL, nh, nl, u32]) | rfl) ?_ | refine GL.loadFA I0.mono (n := 4) rfl rfl rfl rfl (Nat.le_of_ble_eq_true rfl) (by first | (conv => lhs; simp only [List.take_succ_cons, List.take_zero, List.drop_succ_cons, List.drop_zero, List.nil_append, List.cons_append, List.drop_nil, List.append_nil, List.take_nil, List.set_cons_zero, List.set_cons_succ, Nat.zero_add, ni, nr, nc, ns, np, ic, nt, ei, cellsL, nh, nl, u32]) | rfl) ?_
  refine GL.move I0.mono (by conv => lhs; whnf) ?_
  first | refine GL.indexAddrF I0.mono (sz := 7) rfl rfl rfl rfl (by decide) (by decide) (by intro e he; obtain ⟨a, -, rfl⟩ := List.mem_map.1 he; rfl) (by first | with_reducible exact Int.toNat_natCast _ | rfl) ?_ | refine GL.indexAddr I0.mono (sz := 7) rfl rfl rfl rfl rfl rfl rfl rfl (by decide) (by decide) (by first | (conv => lhs; simp only [Nat.zero_add, Int.toNat_natCast]) | rfl) ?_
  first | refine GL.loadA I0.mono (n := 7) rfl rfl rfl rfl (by simp) rfl rfl (Nat.le_of_ble_eq_true rfl) (by first | (conv => lhs; simp only [List.take_succ_cons, List.take_zero, List.drop_succ_cons, List.drop_zero, List.nil_append, List.cons_append, List.drop_nil, List.append_nil, List.take_nil, List.set_cons_zero, List.set_cons_succ, Nat.zero_add, ni, nr, nc, ns, np, ic, nt, ei, cellsL, nh, nl, u32]) | rfl) ?_ | refine GL.loadFA I0.mono (n := 7) rfl rfl rfl rfl (Nat.le_of_ble_eq_true rfl) (by first | (conv => lhs; simp only [List.take_succ_cons, List.take_zero, List.drop_succ_cons, List.drop_zero, List.nil_append, List.cons_append, List.drop_nil, List.append_nil, List.take_nil, List.set_cons_zero, List.set_cons_succ, Nat.zero_add, ni, nr, nc, ns, np, ic, nt, ei, cellsL, nh, nl, u32]) | rfl) ?_
  refine GL.move I0.mono (by conv => lhs; whnf) ?_
  first | refine GL.indexAddrF I0.mono (sz := 8) rfl rfl rfl rfl (by decide) (by decide) (by intro e he; obtain ⟨a, -, rfl⟩ := List.mem_map.1 he; rfl) (by first | with_reducible exact Int.toNat_natCast _ | rfl) ?_ | refine GL.indexAddr I0.mono (sz := 8) rfl rfl rfl rfl rfl rfl rfl rfl (by decide) (by decide) (by first | (conv => lhs; simp only [Nat.zero_add, Int.toNat_natCast]) | rfl) ?_
  first | refine GL.loadA I0.mono (n := 8) rfl rfl rfl rfl (by simp) rfl rfl (Nat.le_of_ble_eq_true rfl) (by first | (conv => lhs; simp only [List.take_succ_cons, List.take_zero, List.drop_succ_cons, List.drop_zero, List.nil_append, List.cons_append, List.drop_nil, List.append_nil, List.take_nil, List.set_cons_zero, List.set_cons_succ, Nat.zero_add, ni, nr, nc, ns, np, ic, nt, ei, cellsL, nh, nl, u32]) | rfl) ?_ | refine GL.loadFA I0.mono (n := 8) rfl rfl rfl rfl (Nat.le_of_ble_eq_true rfl) (by first | (conv => lhs; simp only [List.take_succ_cons, List.take_zero, List.drop_succ_cons, List.drop_zero, List.nil_append, List.cons_append, List.drop_nil, List.append_nil, List.take_nil, List.set_cons_zero, List.set_cons_succ, Nat.zero_add, ni, nr, nc, ns, np, ic, nt, ei, cellsL, nh, nl, u32]) | rfl) ?_
  refine GL.call0 I0.mono rfl (Frz.aggc (Frz.aggc (by first | exact Frz.pure rfl | exact Frz.nils | exact Frz.whole rfl rfl rfl rfl (by first | exact em_len _ _ | (rw [em_len]; omega))) (Frz.aggc (by first | exact Frz.pure rfl | exact Frz.nils | exact Frz.whole rfl rfl rfl rfl (by first | exact em_len _ _ | (rw [em_len]; omega))) (Frz.aggc (by first | exact Frz.pure rfl | exact Frz.nils | exact Frz.whole rfl rfl rfl rfl (by first | exact em_len _ _ | (rw [em_len]; omega))) (Frz.aggc (by first | exact Frz.pure rfl | exact Frz.nils | exact Frz.whole rfl rfl rfl rfl (by first | exact em_len _ _ | (rw [em_len]; omega))) Frz.aggn)))) (Frz.aggc (Frz.pure rfl) (Frz.aggc (Frz.aggc (Frz.pure rfl) (Frz.aggc (Frz.pure rfl) (Frz.aggc (Frz.pure rfl) (Frz.aggc (Frz.pure rfl) (Frz.aggc (Frz.pure rfl) (Frz.aggc (Frz.pure rfl) (Frz.aggc (Frz.pure rfl) Frz.aggn))))))) (Frz.aggc (Frz.aggc (Frz.pure rfl) (Frz.aggc (Frz.pure rfl) (Frz.aggc (Frz.pure rfl) (Frz.aggc (Frz.pure rfl) (Frz.aggc (Frz.pure rfl) (Frz.aggc (Frz.pure rfl) (Frz.aggc (Frz.pure rfl) (Frz.aggc (Frz.pure rfl) Frz.aggn)))))))) Frz.aggn)))) (meet_is short5 (h := ⟨true, 2, 35, 5, 4, 6, 6⟩) (t := ⟨true, 2, 35, 0, 2, 0, 12, 3⟩) (o := none) (by decide +kernel)) rfl rfl (fun _ => rfl) ?_
  refine GL.move I0.mono (by conv => lhs; whnf) ?_
  refine GL.extract I0.mono rfl rfl ?_
  refine GL.extract I0.mono rfl rfl ?_
  refine GL.assign I0.mono (by conv => lhs; whnf) ?_
  refine GL.assign I0.mono (by conv => lhs; whnf) ?_
  refine GL.doneT (by kernel_rfl) ?_
  refine goOn ?_
  refine Wp.seqI ?_
  refine Wp.regD ?_
  first | refine GL.loadA I0.mono (n := 4) rfl rfl rfl rfl (by simp) rfl rfl (Nat.le_of_ble_eq_true rfl) (by first | (conv => lhs; simp only [List.take_succ_cons, List.take_zero, List.drop_succ_cons, List.drop_zero, List.nil_append, List.cons_append, List.drop_nil, List.append_nil, List.take_nil, List.set_cons_zero, List.set_cons_succ, Nat.zero_add, ni, nr, nc, ns, np, ic, nt, ei, cellsL, nh, nl, u32]) | rfl) ?_ | refine GL.loadFA I0.mono (n := 4) rfl rfl rfl rfl (Nat.le_of_ble_eq_true rfl) (by first | (conv => lhs; simp only [List.take_succ_cons, List.take_zero, List.drop_succ_cons, List.drop_zero, List.nil_append, List.cons_append, List.drop_nil, List.append_nil, List.take_nil, List.set_cons_zero, List.set_cons_succ, Nat.zero_add, ni, nr, nc, ns, np, ic, nt, ei, cellsL, nh, nl, u32]) | rfl) ?_
  refine GL.move I0.mono (by conv => lhs; whnf) ?_
  first | refine GL.indexAddrF I0.mono (sz := 7) rfl rfl rfl rfl (by decide) (by decide) (by intro e he; obtain ⟨a, -, rfl⟩ := List.mem_map.1 he; rfl) (by first | with_reducible exact Int.toNat_natCast _ | rfl) ?_ | refine GL.indexAddr I0.mono (sz := 7) rfl rfl rfl rfl rfl rfl rfl rfl (by decide) (by decide) (by first | (conv => lhs; simp only [Nat.zero_add, Int.toNat_natCast]) | rfl) ?_
  first | refine GL.loadA I0.mono (n := 7) rfl rfl rfl rfl (by simp) rfl rfl (Nat.le_of_ble_eq_true rfl) (by first | (conv => lhs; simp only [List.take_succ_cons, List.take_zero, List.drop_succ_cons, List.drop_zero, List.nil_append, List.cons_append, List.drop_nil, List.append_nil, List.take_nil, List.set_cons_zero, List.set_cons_succ, Nat.zero_add, ni, nr, nc, ns, np, ic, nt, ei, cellsL, nh, nl, u32]) | rfl) ?_ | refine GL.loadFA I0.mono (n := 7) rfl rfl rfl rfl (Nat.le_of_ble_eq_true rfl) (by first | (conv => lhs; simp only [List.take_succ_cons, List.take_zero, List.drop_succ_cons, List.drop_zero, List.nil_append, List.cons_append, List.drop_nil, List.append_nil, List.take_nil, List.set_cons_zero, List.set_cons_succ, Nat.zero_add, ni, nr, nc, ns, np, ic, nt, ei, cellsL, nh, nl, u32]) | rfl) ?_
  refine GL.move I0.mono (by conv => lhs; whnf) ?_
  first | refine GL.indexAddrF I0.mono (sz := 8) rfl rfl rfl rfl (by decide) (by decide) (by intro e he; obtain ⟨a, -, rfl⟩ := List.mem_map.1 he; rfl) (by first | with_reducible exact Int.toNat_natCast _ | rfl) ?_ | refine GL.indexAddr I0.mono (sz := 8) rfl rfl rfl rfl rfl rfl rfl rfl (by decide) (by decide) (by first | (conv => lhs; simp only [Nat.zero_add, Int.toNat_natCast]) | rfl) ?_
  first | refine GL.loadA I0.mono (n := 8) rfl rfl rfl rfl (by simp) rfl rfl (Nat.le_of_ble_eq_true rfl) (by first | (conv => lhs; simp only [List.take_succ_cons, List.take_zero, List.drop_succ_cons, List.drop_zero, List.nil_append, List.cons_append, List.drop_nil, List.append_nil, List.take_nil, List.set_cons_zero, List.set_cons_succ, Nat.zero_add, ni, nr, nc, ns, np, ic, nt, ei, cellsL, nh, nl, u32]) | rfl) ?_ | refine GL.loadFA I0.mono (n := 8) rfl rfl rfl rfl (Nat.le_of_ble_eq_true rfl) (by first | (conv => lhs; simp only [List.take_succ_cons, List.take_zero, List.drop_succ_cons, List.drop_zero, List.nil_append, List.cons_append, List.drop_nil, List.append_nil, List.take_nil, List.set_cons_zero, List.set_cons_succ, Nat.zero_add, ni, nr, nc, ns, np, ic, nt, ei, cellsL, nh, nl, u32]) | rfl) ?_
  refine GL.call0 I0.mono rfl (Frz.aggc (Frz.aggc (by first | exact Frz.pure rfl | exact Frz.nils | exact Frz.whole rfl rfl rfl rfl (by first | exact em_len _ _ | (rw [em_len]; omega))) (Frz.aggc (by first | exact Frz.pure rfl | exact Frz.nils | exact Frz.whole rfl rfl rfl rfl (by first | exact em_len _ _ | (rw [em_len]; omega))) (Frz.aggc (by first | exact Frz.pure rfl | exact Frz.nils | exact Frz.whole rfl rfl rfl rfl (by first | exact em_len _ _ | (rw [em_len]; omega))) (Frz.aggc (by first | exact Frz.pure rfl | exact Frz.nils | exact Frz.whole rfl rfl rfl rfl (by first | exact em_len _ _ | (rw [em_len]; omega))) Frz.aggn)))) (Frz.aggc (Frz.pure rfl) (Frz.aggc (Frz.aggc (Frz.pure rfl) (Frz.aggc (Frz.pure rfl) (Frz.aggc (Frz.pure rfl) (Frz.aggc (Frz.pure rfl) (Frz.aggc (Frz.pure rfl) (Frz.aggc (Frz.pure rfl) (Frz.aggc (Frz.pure rfl) Frz.aggn))))))) (Frz.aggc (Frz.aggc (Frz.pure rfl) (Frz.aggc (Frz.pure rfl) (Frz.aggc (Frz.pure rfl) (Frz.aggc (Frz.pure rfl) (Frz.aggc (Frz.pure rfl) (Frz.aggc (Frz.pure rfl) (Frz.aggc (Frz.pure rfl) (Frz.aggc (Frz.pure rfl) Frz.aggn)))))))) Frz.aggn)))) (meet_is short5 (h := ⟨true, 3, 37, 3, 0, 14, 8⟩) (t := ⟨true, 3, 50, -2, 0, 4, 8, 1⟩) (o := none) (by decide +kernel)) rfl rfl (fun _ => rfl) ?_
  refine GL.move I0.mono (by conv => lhs; whnf) ?_
  refine GL.extract I0.mono rfl rfl ?_
  refine GL.extract I0.mono rfl rfl ?_
  refine GL.assign I0.mono (by conv => lhs; whnf) ?_
  refine GL.assign I0.mono (by conv => lhs; whnf) ?_
  refine GL.doneT (by kernel_rfl) ?_
  refine goOn ?_
  refine Wp.seqI ?_
  refine Wp.regD ?_
  first | refine GL.loadA I0.mono (n := 4) rfl rfl rfl rfl (by simp) rfl rfl (Nat.le_of_ble_eq_true rfl) (by first | (conv => lhs; simp only [List.take_succ_cons, List.take_zero, List.drop_succ_cons, List.drop_zero, List.nil_append, List.cons_append, List.drop_nil, List.append_nil, List.take_nil, List.set_cons_zero, List.set_cons_succ, Nat.zero_add, ni, nr, nc, ns, np, ic, nt, ei, cellsL, nh, nl, u32]) | rfl) ?_ | refine GL.loadFA I0.mono (n := 4) rfl rfl rfl rfl (Nat.le_of_ble_eq_true rfl) (by first | (conv => lhs; simp only [List.take_succ_cons, List.take_zero, List.drop_succ_cons, List.drop_zero, List.nil_append, List.cons_append, List.drop_nil, List.append_nil, List.take_nil, List.set_cons_zero, List.set_cons_succ, Nat.zero_add, ni, nr, nc, ns, np, ic, nt, ei, cellsL, nh, nl, u32]) | rfl) ?_
  refine GL.move I0.mono (by conv => lhs; whnf) ?_
  first | refine GL.indexAddrF I0.mono (sz := 7) rfl rfl rfl rfl (by decide) (by decide) (by intro e he; obtain ⟨a, -, rfl⟩ := List.mem_map.1 he; rfl) (by first | with_reducible exact Int.toNat_natCast _ | rfl) ?_ | refine GL.indexAddr I0.mono (sz := 7) rfl rfl rfl rfl rfl rfl rfl rfl (by decide) (by decide) (by first | (conv => lhs; simp only [Nat.zero_add, Int.toNat_natCast]) | rfl) ?_
  first | refine GL.loadA I0.mono (n := 7) rfl rfl rfl rfl (by simp) rfl rfl (Nat.le_of_ble_eq_true rfl) (by first | (conv => lhs; simp only [List.take_succ_cons, List.take_zero, List.drop_succ_cons, List.drop_zero, List.nil_append, List.cons_append, List.drop_nil, List.append_nil, List.take_nil, List.set_cons_zero, List.set_cons_succ, Nat.zero_add, ni, nr, nc, ns, np, ic, nt, ei, cellsL, nh, nl, u32]) | rfl) ?_ | refine GL.loadFA I0.mono (n := 7) rfl rfl rfl rfl (Nat.le_of_ble_eq_true rfl) (by first | (conv => lhs; simp only [List.take_succ_cons, List.take_zero, List.drop_succ_cons, List.drop_zero, List.nil_append, List.cons_append, List.drop_nil, List.append_nil, List.take_nil, List.set_cons_zero, List.set_cons_succ, Nat.zero_add, ni, nr, nc, ns, np, ic, nt, ei, cellsL, nh, nl, u32]) | rfl) ?_
  refine GL.move I0.mono (by conv => lhs; whnf) ?_
  first | refine GL.indexAddrF I0.mono (sz := 8) rfl rfl rfl rfl (by decide) (by decide) (by intro e he; obtain ⟨a, -, rfl⟩ := List.mem_map.1 he; rfl) (by first | with_reducible exact Int.toNat_natCast _ | rfl) ?_ | refine GL.indexAddr I0.mono (sz := 8) rfl rfl rfl rfl rfl rfl rfl rfl (by decide) (by decide) (by first | (conv => lhs; simp only [Nat.zero_add, Int.toNat_natCast]) | rfl) ?_
  first | refine GL.loadA I0.mono (n := 8) rfl rfl rfl rfl (by simp) rfl rfl (Nat.le_of_ble_eq_true rfl) (by first | (conv => lhs; simp only [List.take_succ_cons, List.take_zero, List.drop_succ_cons, List.drop_zero, List.nil_append, List.cons_append, List.drop_nil, List.append_nil, List.take_nil, List.set_cons_zero, List.set_cons_succ, Nat.zero_add, ni, nr, nc, ns, np, ic, nt, ei, cellsL, nh, nl, u32]) | rfl) ?_ | refine GL.loadFA I0.mono (n := 8) rfl rfl rfl rfl (Nat.le_of_ble_eq_true rfl) (by first | (conv => lhs; simp only [List.take_succ_cons, List.take_zero, List.drop_succ_cons, List.drop_zero, List.nil_append, List.cons_append, List.drop_nil, List.append_nil, List.take_nil, List.set_cons_zero, List.set_cons_succ, Nat.zero_add, ni, nr, nc, ns, np, ic, nt, ei, cellsL, nh, nl, u32]) | rfl) ?_
  refine GL.call0 I0.mono rfl (Frz.aggc (Frz.aggc (by first | exact Frz.pure rfl | exact Frz.nils | exact Frz.whole rfl rfl rfl rfl (by first | exact em_len _ _ | (rw [em_len]; omega))) (Frz.aggc (by first | exact Frz.pure rfl | exact Frz.nils | exact Frz.whole rfl rfl rfl rfl (by first | exact em_len _ _ | (rw [em_len]; omega))) (Frz.aggc (by first | exact Frz.pure rfl | exact Frz.nils | exact Frz.whole rfl rfl rfl rfl (by first | exact em_len _ _ | (rw [em_len]; omega))) (Frz.aggc (by first | exact Frz.pure rfl | exact Frz.nils | exact Frz.whole rfl rfl rfl rfl (by first | exact em_len _ _ | (rw [em_len]; omega))) Frz.aggn)))) (Frz.aggc (Frz.pure rfl) (Frz.aggc (Frz.aggc (Frz.pure rfl) (Frz.aggc (Frz.pure rfl) (Frz.aggc (Frz.pure rfl) (Frz.aggc (Frz.pure rfl) (Frz.aggc (Frz.pure rfl) (Frz.aggc (Frz.pure rfl) (Frz.aggc (Frz.pure rfl) Frz.aggn))))))) (Frz.aggc (Frz.aggc (Frz.pure rfl) (Frz.aggc (Frz.pure rfl) (Frz.aggc (Frz.pure rfl) (Frz.aggc (Frz.pure rfl) (Frz.aggc (Frz.pure rfl) (Frz.aggc (Frz.pure rfl) (Frz.aggc (Frz.pure rfl) (Frz.aggc (Frz.pure rfl) Frz.aggn)))))))) Frz.aggn)))) (meet_is short5 (h := ⟨true, 2, 35, 5, 4, 6, 6⟩) (t := ⟨true, 0, 60, 0, 0, 0, 0, 0⟩) (o := none) (by decide +kernel)) rfl rfl (fun _ => rfl) ?_
  refine GL.move I0.mono (by conv => lhs; whnf) ?_
  refine GL.extract I0.mono rfl rfl ?_
  refine GL.extract I0.mono rfl rfl ?_
  refine GL.assign I0.mono (by conv => lhs; whnf) ?_
  refine GL.assign I0.mono (by conv => lhs; whnf) ?_
  refine GL.doneT (by kernel_rfl) ?_
  refine goOn ?_
  refine Wp.seqI ?_
  refine Wp.regD ?_
  first | refine GL.loadA I0.mono (n := 4) rfl rfl rfl rfl (by simp) rfl rfl (Nat.le_of_ble_eq_true rfl) (by first | (conv => lhs; simp only [List.take_succ_cons, List.take_zero, List.drop_succ_cons, List.drop_zero, List.nil_append, List.cons_append, List.drop_nil, List.append_nil, List.take_nil, List.set_cons_zero, List.set_cons_succ, Nat.zero_add, ni, nr, nc, ns, np, ic, nt, ei, cellsL, nh, nl, u32]) | rfl) ?_ | refine GL.loadFA I0.mono (n := 4) rfl rfl rfl rfl (Nat.le_of_ble_eq_true rfl) (by first | (conv => lhs; simp only [List.take_succ_cons, List.take_zero, List.drop_succ_cons, List.drop_zero, List.nil_append, List.cons_append, List.drop_nil, List.append_nil, List.take_nil, List.set_cons_zero, List.set_cons_succ, Nat.zero_add, ni, nr, nc, ns, np, ic, nt, ei, cellsL, nh, nl, u32]) | rfl) ?_
  refine GL.buildS I0.mono (z := [LV.bool false, LV.int .i64 0, LV.int .i64 0, LV.int .i64 0, LV.int .u32 0, LV.int .u32 0, LV.int .i64 0]) (cs := [_, _, _, _, _, _, _]) (n := 7) rfl rfl rfl (EvS.nil) rfl rfl ?_
  refine GL.move I0.mono (by conv => lhs; whnf) ?_
  first | refine GL.indexAddrF I0.mono (sz := 8) rfl rfl rfl rfl (by decide) (by decide) (by intro e he; obtain ⟨a, -, rfl⟩ := List.mem_map.1 he; rfl) (by first | with_reducible exact Int.toNat_natCast _ | rfl) ?_ | refine GL.indexAddr I0.mono (sz := 8) rfl rfl rfl rfl rfl rfl rfl rfl (by decide) (by decide) (by first | (conv => lhs; simp only [Nat.zero_add, Int.toNat_natCast]) | rfl) ?_
  first | refine GL.loadA I0.mono (n := 8) rfl rfl rfl rfl (by simp) rfl rfl (Nat.le_of_ble_eq_true rfl) (by first | (conv => lhs; simp only [List.take_succ_cons, List.take_zero, List.drop_succ_cons, List.drop_zero, List.nil_append, List.cons_append, List.drop_nil, List.append_nil, List.take_nil, List.set_cons_zero, List.set_cons_succ, Nat.zero_add, ni, nr, nc, ns, np, ic, nt, ei, cellsL, nh, nl, u32]) | rfl) ?_ | refine GL.loadFA I0.mono (n := 8) rfl rfl rfl rfl (Nat.le_of_ble_eq_true rfl) (by first | (conv => lhs; simp only [List.take_succ_cons, List.take_zero, List.drop_succ_cons, List.drop_zero, List.nil_append, List.cons_append, List.drop_nil, List.append_nil, List.take_nil, List.set_cons_zero, List.set_cons_succ, Nat.zero_add, ni, nr, nc, ns, np, ic, nt, ei, cellsL, nh, nl, u32]) | rfl) ?_
  refine GL.call0 I0.mono rfl (Frz.aggc (Frz.aggc (by first | exact Frz.pure rfl | exact Frz.nils | exact Frz.whole rfl rfl rfl rfl (by first | exact em_len _ _ | (rw [em_len]; omega))) (Frz.aggc (by first | exact Frz.pure rfl | exact Frz.nils | exact Frz.whole rfl rfl rfl rfl (by first | exact em_len _ _ | (rw [em_len]; omega))) (Frz.aggc (by first | exact Frz.pure rfl | exact Frz.nils | exact Frz.whole rfl rfl rfl rfl (by first | exact em_len _ _ | (rw [em_len]; omega))) (Frz.aggc (by first | exact Frz.pure rfl | exact Frz.nils | exact Frz.whole rfl rfl rfl rfl (by first | exact em_len _ _ | (rw [em_len]; omega))) Frz.aggn)))) (Frz.aggc (Frz.pure rfl) (Frz.aggc (Frz.aggc (Frz.pure rfl) (Frz.aggc (Frz.pure rfl) (Frz.aggc (Frz.pure rfl) (Frz.aggc (Frz.pure rfl) (Frz.aggc (Frz.pure rfl) (Frz.aggc (Frz.pure rfl) (Frz.aggc (Frz.pure rfl) Frz.aggn))))))) (Frz.aggc (Frz.aggc (Frz.pure rfl) (Frz.aggc (Frz.pure rfl) (Frz.aggc (Frz.pure rfl) (Frz.aggc (Frz.pure rfl) (Frz.aggc (Frz.pure rfl) (Frz.aggc (Frz.pure rfl) (Frz.aggc (Frz.pure rfl) (Frz.aggc (Frz.pure rfl) Frz.aggn)))))))) Frz.aggn)))) (meet_is short5 (h := zeroH) (t := ⟨true, 0, 60, 0, 0, 0, 0, 0⟩) (o := none) (by decide +kernel)) rfl rfl (fun _ => rfl) ?_
  refine GL.move I0.mono (by conv => lhs; whnf) ?_
  refine GL.extract I0.mono rfl rfl ?_
  refine GL.extract I0.mono rfl rfl ?_
  refine GL.assign I0.mono (by conv => lhs; whnf) ?_
  refine GL.assign I0.mono (by conv => lhs; whnf) ?_
  refine GL.doneT (by kernel_rfl) ?_
  refine goOn ?_
  refine Wp.seqI ?_
  refine Wp.regD ?_
  refine GL.move I0.mono (by conv => lhs; whnf) ?_
  refine GL.move I0.mono (by conv => lhs; whnf) ?_
  refine GL.guardT rfl ?_
  refine GL.move I0.mono (by conv => lhs; whnf) ?_
  refine GL.guardT rfl ?_
  refine GL.bin I0.mono (v := .bool true) (by kernel_rfl) ?_
  refine GL.pick I0.mono rfl (by conv => lhs; whnf) ?_
  refine GL.move I0.mono (by conv => lhs; whnf) ?_
  refine GL.guardT rfl ?_
  refine GL.move I0.mono (by conv => lhs; whnf) ?_
  refine GL.guardT rfl ?_
  refine GL.un I0.mono rfl ?_
  refine GL.pick I0.mono rfl (by conv => lhs; whnf) ?_
  refine GL.move I0.mono (by conv => lhs; whnf) ?_
  refine GL.guardT rfl ?_
  refine GL.move I0.mono (by conv => lhs; whnf) ?_
  refine GL.guardT rfl ?_
  refine GL.un I0.mono rfl ?_
  refine GL.pick I0.mono rfl (by conv => lhs; whnf) ?_
  refine GL.move I0.mono (by conv => lhs; whnf) ?_
  refine GL.guardT rfl ?_
  refine GL.move I0.mono (by conv => lhs; whnf) ?_
  refine GL.guardT rfl ?_
  refine GL.un I0.mono rfl ?_
  refine GL.pick I0.mono rfl (by conv => lhs; whnf) ?_
  refine GL.move I0.mono (by conv => lhs; whnf) ?_
  refine GL.guardT rfl ?_
  refine GL.move I0.mono (by conv => lhs; whnf) ?_
  refine GL.guardT rfl ?_
  refine GL.un I0.mono rfl ?_
  refine GL.pick I0.mono rfl (by conv => lhs; whnf) ?_
  refine GL.move I0.mono (by conv => lhs; whnf) ?_
  refine GL.guardT rfl ?_
  refine GL.move I0.mono (by conv => lhs; whnf) ?_
  refine GL.guardT rfl ?_
  refine GL.un I0.mono rfl ?_
  refine GL.pick I0.mono rfl (by conv => lhs; whnf) ?_
  refine GL.move I0.mono (by conv => lhs; whnf) ?_
  refine GL.guardT rfl ?_
  first | refine GL.loadA I0.mono (n := 4) rfl rfl rfl rfl (by simp) rfl rfl (Nat.le_of_ble_eq_true rfl) (by first | (conv => lhs; simp only [List.take_succ_cons, List.take_zero, List.drop_succ_cons, List.drop_zero, List.nil_append, List.cons_append, List.drop_nil, List.append_nil, List.take_nil, List.set_cons_zero, List.set_cons_succ, Nat.zero_add, ni, nr, nc, ns, np, ic, nt, ei, cellsL, nh, nl, u32]) | rfl) ?_ | refine GL.loadFA I0.mono (n := 4) rfl rfl rfl rfl (Nat.le_of_ble_eq_true rfl) (by first | (conv => lhs; simp only [List.take_succ_cons, List.take_zero, List.drop_succ_cons, List.drop_zero, List.nil_append, List.cons_append, List.drop_nil, List.append_nil, List.take_nil, List.set_cons_zero, List.set_cons_succ, Nat.zero_add, ni, nr, nc, ns, np, ic, nt, ei, cellsL, nh, nl, u32]) | rfl) ?_
  refine GL.guardT rfl ?_
  refine GL.move I0.mono (by conv => lhs; whnf) ?_
  refine GL.guardT rfl ?_
  refine GL.call0 I0.mono rfl (Frz.aggc (Frz.aggc (by first | exact Frz.pure rfl | exact Frz.nils | exact Frz.whole rfl rfl rfl rfl (by first | exact em_len _ _ | (rw [em_len]; omega))) (Frz.aggc (by first | exact Frz.pure rfl | exact Frz.nils | exact Frz.whole rfl rfl rfl rfl (by first | exact em_len _ _ | (rw [em_len]; omega))) (Frz.aggc (by first | exact Frz.pure rfl | exact Frz.nils | exact Frz.whole rfl rfl rfl rfl (by first | exact em_len _ _ | (rw [em_len]; omega))) (Frz.aggc (by first | exact Frz.pure rfl | exact Frz.nils | exact Frz.whole rfl rfl rfl rfl (by first | exact em_len _ _ | (rw [em_len]; omega))) Frz.aggn)))) (Frz.aggc (Frz.pure rfl) Frz.aggn)) (begin5n (n := (1 + within n 1000)) (by omega)) rfl rfl (fun _ => rfl) ?_
  refine GL.guardT rfl ?_
  refine GL.buildS I0.mono (z := [LV.bool false, LV.int .i64 0, LV.int .i64 0, LV.int .i64 0, LV.int .u32 0, LV.int .u32 0, LV.int .i64 0]) (cs := [_, _, _, _, _, _, _]) (n := 7) rfl rfl rfl (EvS.nil) rfl rfl ?_
  refine GL.guardT rfl ?_
  refine GL.bin I0.mono (v := .bool true) (by kernel_rfl) ?_
  refine GL.pick I0.mono rfl (by conv => lhs; whnf) ?_
  refine GL.move I0.mono (by conv => lhs; whnf) ?_
  refine GL.guardT rfl ?_
  first | refine GL.loadA I0.mono (n := 4) rfl rfl rfl rfl (by simp) rfl rfl (Nat.le_of_ble_eq_true rfl) (by first | (conv => lhs; simp only [List.take_succ_cons, List.take_zero, List.drop_succ_cons, List.drop_zero, List.nil_append, List.cons_append, List.drop_nil, List.append_nil, List.take_nil, List.set_cons_zero, List.set_cons_succ, Nat.zero_add, ni, nr, nc, ns, np, ic, nt, ei, cellsL, nh, nl, u32]) | rfl) ?_ | refine GL.loadFA I0.mono (n := 4) rfl rfl rfl rfl (Nat.le_of_ble_eq_true rfl) (by first | (conv => lhs; simp only [List.take_succ_cons, List.take_zero, List.drop_succ_cons, List.drop_zero, List.nil_append, List.cons_append, List.drop_nil, List.append_nil, List.take_nil, List.set_cons_zero, List.set_cons_succ, Nat.zero_add, ni, nr, nc, ns, np, ic, nt, ei, cellsL, nh, nl, u32]) | rfl) ?_
  refine GL.guardT rfl ?_
  refine GL.move I0.mono (by conv => lhs; whnf) ?_
  refine GL.guardT rfl ?_
  refine GL.negR I0.mono rfl (by omega) ?_
  refine GL.guardT rfl ?_
  refine GL.call0 I0.mono rfl (Frz.aggc (Frz.aggc (by first | exact Frz.pure rfl | exact Frz.nils | exact Frz.whole rfl rfl rfl rfl (by first | exact em_len _ _ | (rw [em_len]; omega))) (Frz.aggc (by first | exact Frz.pure rfl | exact Frz.nils | exact Frz.whole rfl rfl rfl rfl (by first | exact em_len _ _ | (rw [em_len]; omega))) (Frz.aggc (by first | exact Frz.pure rfl | exact Frz.nils | exact Frz.whole rfl rfl rfl rfl (by first | exact em_len _ _ | (rw [em_len]; omega))) (Frz.aggc (by first | exact Frz.pure rfl | exact Frz.nils | exact Frz.whole rfl rfl rfl rfl (by first | exact em_len _ _ | (rw [em_len]; omega))) Frz.aggn)))) (Frz.aggc (Frz.pure rfl) Frz.aggn)) (end5n (n := -(1 + within n 1000)) (by omega)) rfl rfl (fun _ => rfl) ?_
  refine GL.guardT rfl ?_
  refine GL.buildS I0.mono (z := [LV.bool false, LV.int .i64 0, LV.int .i64 0, LV.int .i64 0, LV.int .i64 0, LV.int .u32 0, LV.int .u32 0, LV.int .i64 0]) (cs := [_, _, _, _, _, _, _, _]) (n := 8) rfl rfl rfl (EvS.nil) rfl rfl ?_
  refine GL.guardT rfl ?_
  refine GL.bin I0.mono (v := .bool true) (by kernel_rfl) ?_
  refine GL.pick I0.mono rfl (by conv => lhs; whnf) ?_
  refine GL.move I0.mono (by conv => lhs; whnf) ?_
  refine GL.guardT rfl ?_
  first | refine GL.loadA I0.mono (n := 4) rfl rfl rfl rfl (by simp) rfl rfl (Nat.le_of_ble_eq_true rfl) (by first | (conv => lhs; simp only [List.take_succ_cons, List.take_zero, List.drop_succ_cons, List.drop_zero, List.nil_append, List.cons_append, List.drop_nil, List.append_nil, List.take_nil, List.set_cons_zero, List.set_cons_succ, Nat.zero_add, ni, nr, nc, ns, np, ic, nt, ei, cellsL, nh, nl, u32]) | rfl) ?_ | refine GL.loadFA I0.mono (n := 4) rfl rfl rfl rfl (Nat.le_of_ble_eq_true rfl) (by first | (conv => lhs; simp only [List.take_succ_cons, List.take_zero, List.drop_succ_cons, List.drop_zero, List.nil_append, List.cons_append, List.drop_nil, List.append_nil, List.take_nil, List.set_cons_zero, List.set_cons_succ, Nat.zero_add, ni, nr, nc, ns, np, ic, nt, ei, cellsL, nh, nl, u32]) | rfl) ?_
  refine GL.guardT rfl ?_
  refine GL.move I0.mono (by conv => lhs; whnf) ?_
  refine GL.guardT rfl ?_
  first | refine GL.indexAddrF I0.mono (sz := 7) rfl rfl rfl rfl (by decide) (by decide) (by intro e he; obtain ⟨a, -, rfl⟩ := List.mem_map.1 he; rfl) (by first | with_reducible exact Int.toNat_natCast _ | rfl) ?_ | refine GL.indexAddr I0.mono (sz := 7) rfl rfl rfl rfl rfl rfl rfl rfl (by decide) (by decide) (by first | (conv => lhs; simp only [Nat.zero_add, Int.toNat_natCast]) | rfl) ?_
  refine GL.guardT rfl ?_
  first | refine GL.loadA I0.mono (n := 7) rfl rfl rfl rfl (by simp) rfl rfl (Nat.le_of_ble_eq_true rfl) (by first | (conv => lhs; simp only [List.take_succ_cons, List.take_zero, List.drop_succ_cons, List.drop_zero, List.nil_append, List.cons_append, List.drop_nil, List.append_nil, List.take_nil, List.set_cons_zero, List.set_cons_succ, Nat.zero_add, ni, nr, nc, ns, np, ic, nt, ei, cellsL, nh, nl, u32]) | rfl) ?_ | refine GL.loadFA I0.mono (n := 7) rfl rfl rfl rfl (Nat.le_of_ble_eq_true rfl) (by first | (conv => lhs; simp only [List.take_succ_cons, List.take_zero, List.drop_succ_cons, List.drop_zero, List.nil_append, List.cons_append, List.drop_nil, List.append_nil, List.take_nil, List.set_cons_zero, List.set_cons_succ, Nat.zero_add, ni, nr, nc, ns, np, ic, nt, ei, cellsL, nh, nl, u32]) | rfl) ?_
  refine GL.guardT rfl ?_
  refine GL.move I0.mono (by conv => lhs; whnf) ?_
  refine GL.guardT rfl ?_
  refine GL.addR I0.mono rfl rfl (by omega) ?_
  refine GL.guardT rfl ?_
  refine GL.call0 I0.mono rfl (Frz.aggc (Frz.aggc (by first | exact Frz.pure rfl | exact Frz.nils | exact Frz.whole rfl rfl rfl rfl (by first | exact em_len _ _ | (rw [em_len]; omega))) (Frz.aggc (by first | exact Frz.pure rfl | exact Frz.nils | exact Frz.whole rfl rfl rfl rfl (by first | exact em_len _ _ | (rw [em_len]; omega))) (Frz.aggc (by first | exact Frz.pure rfl | exact Frz.nils | exact Frz.whole rfl rfl rfl rfl (by first | exact em_len _ _ | (rw [em_len]; omega))) (Frz.aggc (by first | exact Frz.pure rfl | exact Frz.nils | exact Frz.whole rfl rfl rfl rfl (by first | exact em_len _ _ | (rw [em_len]; omega))) Frz.aggn)))) (Frz.aggc (Frz.pure rfl) (Frz.aggc (Frz.aggc (Frz.pure rfl) (Frz.aggc (Frz.pure rfl) (Frz.aggc (Frz.pure rfl) (Frz.aggc (Frz.pure rfl) (Frz.aggc (Frz.pure rfl) (Frz.aggc (Frz.pure rfl) (Frz.aggc (Frz.pure rfl) Frz.aggn))))))) (Frz.aggc (Frz.pure rfl) Frz.aggn)))) (ext5 (h := ⟨true, 0, 10, 0, 0, 0, 0⟩) (s := 3 + (1 + within n 1000)) (ext5_out (by omega))) rfl rfl (fun _ => rfl) ?_
  refine GL.guardT rfl ?_
  refine GL.buildS I0.mono (z := [LV.bool false, LV.int .i64 0, LV.int .i64 0, LV.int .i64 0, LV.int .u32 0, LV.int .u32 0, LV.int .i64 0]) (cs := [_, _, _, _, _, _, _]) (n := 7) rfl rfl rfl (EvS.nil) rfl rfl ?_
  refine GL.guardT rfl ?_
  refine GL.bin I0.mono (v := .bool true) (by kernel_rfl) ?_
  refine GL.pick I0.mono rfl (by conv => lhs; whnf) ?_
  refine GL.move I0.mono (by conv => lhs; whnf) ?_
  refine GL.guardT rfl ?_
  first | refine GL.loadA I0.mono (n := 4) rfl rfl rfl rfl (by simp) rfl rfl (Nat.le_of_ble_eq_true rfl) (by first | (conv => lhs; simp only [List.take_succ_cons, List.take_zero, List.drop_succ_cons, List.drop_zero, List.nil_append, List.cons_append, List.drop_nil, List.append_nil, List.take_nil, List.set_cons_zero, List.set_cons_succ, Nat.zero_add, ni, nr, nc, ns, np, ic, nt, ei, cellsL, nh, nl, u32]) | rfl) ?_ | refine GL.loadFA I0.mono (n := 4) rfl rfl rfl rfl (Nat.le_of_ble_eq_true rfl) (by first | (conv => lhs; simp only [List.take_succ_cons, List.take_zero, List.drop_succ_cons, List.drop_zero, List.nil_append, List.cons_append, List.drop_nil, List.append_nil, List.take_nil, List.set_cons_zero, List.set_cons_succ, Nat.zero_add, ni, nr, nc, ns, np, ic, nt, ei, cellsL, nh, nl, u32]) | rfl) ?_
  refine GL.guardT rfl ?_
  refine GL.move I0.mono (by conv => lhs; whnf) ?_
  refine GL.guardT rfl ?_
  first | refine GL.indexAddrF I0.mono (sz := 7) rfl rfl rfl rfl (by decide) (by decide) (by intro e he; obtain ⟨a, -, rfl⟩ := List.mem_map.1 he; rfl) (by first | with_reducible exact Int.toNat_natCast _ | rfl) ?_ | refine GL.indexAddr I0.mono (sz := 7) rfl rfl rfl rfl rfl rfl rfl rfl (by decide) (by decide) (by first | (conv => lhs; simp only [Nat.zero_add, Int.toNat_natCast]) | rfl) ?_
  refine GL.guardT rfl ?_
  first | refine GL.loadA I0.mono (n := 7) rfl rfl rfl rfl (by simp) rfl rfl (Nat.le_of_ble_eq_true rfl) (by first | (conv => lhs; simp only [List.take_succ_cons, List.take_zero, List.drop_succ_cons, List.drop_zero, List.nil_append, List.cons_append, List.drop_nil, List.append_nil, List.take_nil, List.set_cons_zero, List.set_cons_succ, Nat.zero_add, ni, nr, nc, ns, np, ic, nt, ei, cellsL, nh, nl, u32]) | rfl) ?_ | refine GL.loadFA I0.mono (n := 7) rfl rfl rfl rfl (Nat.le_of_ble_eq_true rfl) (by first | (conv => lhs; simp only [List.take_succ_cons, List.take_zero, List.drop_succ_cons, List.drop_zero, List.nil_append, List.cons_append, List.drop_nil, List.append_nil, List.take_nil, List.set_cons_zero, List.set_cons_succ, Nat.zero_add, ni, nr, nc, ns, np, ic, nt, ei, cellsL, nh, nl, u32]) | rfl) ?_
  refine GL.guardT rfl ?_
  refine GL.call0 I0.mono rfl (Frz.aggc (Frz.aggc (by first | exact Frz.pure rfl | exact Frz.nils | exact Frz.whole rfl rfl rfl rfl (by first | exact em_len _ _ | (rw [em_len]; omega))) (Frz.aggc (by first | exact Frz.pure rfl | exact Frz.nils | exact Frz.whole rfl rfl rfl rfl (by first | exact em_len _ _ | (rw [em_len]; omega))) (Frz.aggc (by first | exact Frz.pure rfl | exact Frz.nils | exact Frz.whole rfl rfl rfl rfl (by first | exact em_len _ _ | (rw [em_len]; omega))) (Frz.aggc (by first | exact Frz.pure rfl | exact Frz.nils | exact Frz.whole rfl rfl rfl rfl (by first | exact em_len _ _ | (rw [em_len]; omega))) Frz.aggn)))) (Frz.aggc (Frz.pure rfl) (Frz.aggc (Frz.aggc (Frz.pure rfl) (Frz.aggc (Frz.pure rfl) (Frz.aggc (Frz.pure rfl) (Frz.aggc (Frz.pure rfl) (Frz.aggc (Frz.pure rfl) (Frz.aggc (Frz.pure rfl) (Frz.aggc (Frz.pure rfl) Frz.aggn))))))) (Frz.aggc (Frz.pure rfl) Frz.aggn)))) (ext5 (h := ⟨true, 1, 16, 3, 0, 2, 4⟩) (s := 1) (by decide +kernel)) rfl rfl (fun _ => rfl) ?_
  refine GL.guardT rfl ?_
  refine GL.buildS I0.mono (z := [LV.bool false, LV.int .i64 0, LV.int .i64 0, LV.int .i64 0, LV.int .u32 0, LV.int .u32 0, LV.int .i64 0]) (cs := [_, _, _, _, _, _, _]) (n := 7) rfl rfl rfl (EvS.nil) rfl rfl ?_
  refine GL.guardT rfl ?_
  refine GL.bin I0.mono (v := .bool true) (by kernel_rfl) ?_
  refine GL.pick I0.mono rfl (by conv => lhs; whnf) ?_
  refine GL.move I0.mono (by conv => lhs; whnf) ?_
  refine GL.guardT rfl ?_
  first | refine GL.loadA I0.mono (n := 4) rfl rfl rfl rfl (by simp) rfl rfl (Nat.le_of_ble_eq_true rfl) (by first | (conv => lhs; simp only [List.take_succ_cons, List.take_zero, List.drop_succ_cons, List.drop_zero, List.nil_append, List.cons_append, List.drop_nil, List.append_nil, List.take_nil, List.set_cons_zero, List.set_cons_succ, Nat.zero_add, ni, nr, nc, ns, np, ic, nt, ei, cellsL, nh, nl, u32]) | rfl) ?_ | refine GL.loadFA I0.mono (n := 4) rfl rfl rfl rfl (Nat.le_of_ble_eq_true rfl) (by first | (conv => lhs; simp only [List.take_succ_cons, List.take_zero, List.drop_succ_cons, List.drop_zero, List.nil_append, List.cons_append, List.drop_nil, List.append_nil, List.take_nil, List.set_cons_zero, List.set_cons_succ, Nat.zero_add, ni, nr, nc, ns, np, ic, nt, ei, cellsL, nh, nl, u32]) | rfl) ?_
  refine GL.guardT rfl ?_
  refine GL.move I0.mono (by conv => lhs; whnf) ?_
  refine GL.guardT rfl ?_
  first | refine GL.indexAddrF I0.mono (sz := 7) rfl rfl rfl rfl (by decide) (by decide) (by intro e he; obtain ⟨a, -, rfl⟩ := List.mem_map.1 he; rfl) (by first | with_reducible exact Int.toNat_natCast _ | rfl) ?_ | refine GL.indexAddr I0.mono (sz := 7) rfl rfl rfl rfl rfl rfl rfl rfl (by decide) (by decide) (by first | (conv => lhs; simp only [Nat.zero_add, Int.toNat_natCast]) | rfl) ?_
  refine GL.guardT rfl ?_
  first | refine GL.loadA I0.mono (n := 7) rfl rfl rfl rfl (by simp) rfl rfl (Nat.le_of_ble_eq_true rfl) (by first | (conv => lhs; simp only [List.take_succ_cons, List.take_zero, List.drop_succ_cons, List.drop_zero, List.nil_append, List.cons_append, List.drop_nil, List.append_nil, List.take_nil, List.set_cons_zero, List.set_cons_succ, Nat.zero_add, ni, nr, nc, ns, np, ic, nt, ei, cellsL, nh, nl, u32]) | rfl) ?_ | refine GL.loadFA I0.mono (n := 7) rfl rfl rfl rfl (Nat.le_of_ble_eq_true rfl) (by first | (conv => lhs; simp only [List.take_succ_cons, List.take_zero, List.drop_succ_cons, List.drop_zero, List.nil_append, List.cons_append, List.drop_nil, List.append_nil, List.take_nil, List.set_cons_zero, List.set_cons_succ, Nat.zero_add, ni, nr, nc, ns, np, ic, nt, ei, cellsL, nh, nl, u32]) | rfl) ?_
  refine GL.guardT rfl ?_
  refine GL.call0 I0.mono rfl (Frz.aggc (Frz.aggc (by first | exact Frz.pure rfl | exact Frz.nils | exact Frz.whole rfl rfl rfl rfl (by first | exact em_len _ _ | (rw [em_len]; omega))) (Frz.aggc (by first | exact Frz.pure rfl | exact Frz.nils | exact Frz.whole rfl rfl rfl rfl (by first | exact em_len _ _ | (rw [em_len]; omega))) (Frz.aggc (by first | exact Frz.pure rfl | exact Frz.nils | exact Frz.whole rfl rfl rfl rfl (by first | exact em_len _ _ | (rw [em_len]; omega))) (Frz.aggc (by first | exact Frz.pure rfl | exact Frz.nils | exact Frz.whole rfl rfl rfl rfl (by first | exact em_len _ _ | (rw [em_len]; omega))) Frz.aggn)))) (Frz.aggc (Frz.pure rfl) (Frz.aggc (Frz.aggc (Frz.pure rfl) (Frz.aggc (Frz.pure rfl) (Frz.aggc (Frz.pure rfl) (Frz.aggc (Frz.pure rfl) (Frz.aggc (Frz.pure rfl) (Frz.aggc (Frz.pure rfl) (Frz.aggc (Frz.pure rfl) Frz.aggn))))))) (Frz.aggc (Frz.pure rfl) Frz.aggn)))) (ext5 (h := ⟨true, 0, 10, 0, 0, 0, 0⟩) (s := 3) (by decide +kernel)) rfl rfl (fun _ => rfl) ?_
  refine GL.guardT rfl ?_
  refine GL.buildS I0.mono (z := [LV.bool false, LV.int .i64 0, LV.int .i64 0, LV.int .i64 0, LV.int .u32 0, LV.int .u32 0, LV.int .i64 0]) (cs := [_, _, _, _, _, _, _]) (n := 7) rfl rfl rfl (EvS.nil) rfl rfl ?_
  refine GL.guardT rfl ?_
  refine GL.bin I0.mono (v := .bool true) (by kernel_rfl) ?_
  refine GL.pick I0.mono rfl (by conv => lhs; whnf) ?_
  refine GL.move I0.mono (by conv => lhs; whnf) ?_
  refine GL.guardT rfl ?_
  first | refine GL.loadA I0.mono (n := 4) rfl rfl rfl rfl (by simp) rfl rfl (Nat.le_of_ble_eq_true rfl) (by first | (conv => lhs; simp only [List.take_succ_cons, List.take_zero, List.drop_succ_cons, List.drop_zero, List.nil_append, List.cons_append, List.drop_nil, List.append_nil, List.take_nil, List.set_cons_zero, List.set_cons_succ, Nat.zero_add, ni, nr, nc, ns, np, ic, nt, ei, cellsL, nh, nl, u32]) | rfl) ?_ | refine GL.loadFA I0.mono (n := 4) rfl rfl rfl rfl (Nat.le_of_ble_eq_true rfl) (by first | (conv => lhs; simp only [List.take_succ_cons, List.take_zero, List.drop_succ_cons, List.drop_zero, List.nil_append, List.cons_append, List.drop_nil, List.append_nil, List.take_nil, List.set_cons_zero, List.set_cons_succ, Nat.zero_add, ni, nr, nc, ns, np, ic, nt, ei, cellsL, nh, nl, u32]) | rfl) ?_
  refine GL.guardT rfl ?_
  refine GL.move I0.mono (by conv => lhs; whnf) ?_
  refine GL.guardT rfl ?_
  first | refine GL.indexAddrF I0.mono (sz := 8) rfl rfl rfl rfl (by decide) (by decide) (by intro e he; obtain ⟨a, -, rfl⟩ := List.mem_map.1 he; rfl) (by first | with_reducible exact Int.toNat_natCast _ | rfl) ?_ | refine GL.indexAddr I0.mono (sz := 8) rfl rfl rfl rfl rfl rfl rfl rfl (by decide) (by decide) (by first | (conv => lhs; simp only [Nat.zero_add, Int.toNat_natCast]) | rfl) ?_
  refine GL.guardT rfl ?_
  first | refine GL.loadA I0.mono (n := 8) rfl rfl rfl rfl (by simp) rfl rfl (Nat.le_of_ble_eq_true rfl) (by first | (conv => lhs; simp only [List.take_succ_cons, List.take_zero, List.drop_succ_cons, List.drop_zero, List.nil_append, List.cons_append, List.drop_nil, List.append_nil, List.take_nil, List.set_cons_zero, List.set_cons_succ, Nat.zero_add, ni, nr, nc, ns, np, ic, nt, ei, cellsL, nh, nl, u32]) | rfl) ?_ | refine GL.loadFA I0.mono (n := 8) rfl rfl rfl rfl (Nat.le_of_ble_eq_true rfl) (by first | (conv => lhs; simp only [List.take_succ_cons, List.take_zero, List.drop_succ_cons, List.drop_zero, List.nil_append, List.cons_append, List.drop_nil, List.append_nil, List.take_nil, List.set_cons_zero, List.set_cons_succ, Nat.zero_add, ni, nr, nc, ns, np, ic, nt, ei, cellsL, nh, nl, u32]) | rfl) ?_
  refine GL.guardT rfl ?_
  refine GL.call0 I0.mono rfl (Frz.aggc (Frz.aggc (by first | exact Frz.pure rfl | exact Frz.nils | exact Frz.whole rfl rfl rfl rfl (by first | exact em_len _ _ | (rw [em_len]; omega))) (Frz.aggc (by first | exact Frz.pure rfl | exact Frz.nils | exact Frz.whole rfl rfl rfl rfl (by first | exact em_len _ _ | (rw [em_len]; omega))) (Frz.aggc (by first | exact Frz.pure rfl | exact Frz.nils | exact Frz.whole rfl rfl rfl rfl (by first | exact em_len _ _ | (rw [em_len]; omega))) (Frz.aggc (by first | exact Frz.pure rfl | exact Frz.nils | exact Frz.whole rfl rfl rfl rfl (by first | exact em_len _ _ | (rw [em_len]; omega))) Frz.aggn)))) (Frz.aggc (Frz.pure rfl) (Frz.aggc (Frz.pure rfl) (Frz.aggc (Frz.aggc (Frz.pure rfl) (Frz.aggc (Frz.pure rfl) (Frz.aggc (Frz.pure rfl) (Frz.aggc (Frz.pure rfl) (Frz.aggc (Frz.pure rfl) (Frz.aggc (Frz.pure rfl) (Frz.aggc (Frz.pure rfl) (Frz.aggc (Frz.pure rfl) Frz.aggn)))))))) Frz.aggn)))) (bef5 (h := ⟨true, 0, 60, 0, 0, 0, 0, 0⟩) (s := 2) (by decide +kernel)) rfl rfl (fun _ => rfl) ?_
  refine GL.guardT rfl ?_
  refine GL.buildS I0.mono (z := [LV.bool false, LV.int .i64 0, LV.int .i64 0, LV.int .i64 0, LV.int .i64 0, LV.int .u32 0, LV.int .u32 0, LV.int .i64 0]) (cs := [_, _, _, _, _, _, _, _]) (n := 8) rfl rfl rfl (EvS.nil) rfl rfl ?_
  refine GL.guardT rfl ?_
  refine GL.bin I0.mono (v := .bool true) (by kernel_rfl) ?_
  refine GL.pick I0.mono rfl (by conv => lhs; whnf) ?_
  refine GL.move I0.mono (by conv => lhs; whnf) ?_
  refine GL.guardT rfl ?_
  first | refine GL.loadA I0.mono (n := 4) rfl rfl rfl rfl (by simp) rfl rfl (Nat.le_of_ble_eq_true rfl) (by first | (conv => lhs; simp only [List.take_succ_cons, List.take_zero, List.drop_succ_cons, List.drop_zero, List.nil_append, List.cons_append, List.drop_nil, List.append_nil, List.take_nil, List.set_cons_zero, List.set_cons_succ, Nat.zero_add, ni, nr, nc, ns, np, ic, nt, ei, cellsL, nh, nl, u32]) | rfl) ?_ | refine GL.loadFA I0.mono (n := 4) rfl rfl rfl rfl (Nat.le_of_ble_eq_true rfl) (by first | (conv => lhs; simp only [List.take_succ_cons, List.take_zero, List.drop_succ_cons, List.drop_zero, List.nil_append, List.cons_append, List.drop_nil, List.append_nil, List.take_nil, List.set_cons_zero, List.set_cons_succ, Nat.zero_add, ni, nr, nc, ns, np, ic, nt, ei, cellsL, nh, nl, u32]) | rfl) ?_
  refine GL.guardT rfl ?_
  refine GL.move I0.mono (by conv => lhs; whnf) ?_
  refine GL.guardT rfl ?_
  refine GL.negR I0.mono rfl (by omega) ?_
  refine GL.guardT rfl ?_
  refine GL.move I0.mono (by conv => lhs; whnf) ?_
  refine GL.guardT rfl ?_
  first | refine GL.indexAddrF I0.mono (sz := 8) rfl rfl rfl rfl (by decide) (by decide) (by intro e he; obtain ⟨a, -, rfl⟩ := List.mem_map.1 he; rfl) (by first | with_reducible exact Int.toNat_natCast _ | rfl) ?_ | refine GL.indexAddr I0.mono (sz := 8) rfl rfl rfl rfl rfl rfl rfl rfl (by decide) (by decide) (by first | (conv => lhs; simp only [Nat.zero_add, Int.toNat_natCast]) | rfl) ?_
  refine GL.guardT rfl ?_
  first | refine GL.loadA I0.mono (n := 8) rfl rfl rfl rfl (by simp) rfl rfl (Nat.le_of_ble_eq_true rfl) (by first | (conv => lhs; simp only [List.take_succ_cons, List.take_zero, List.drop_succ_cons, List.drop_zero, List.nil_append, List.cons_append, List.drop_nil, List.append_nil, List.take_nil, List.set_cons_zero, List.set_cons_succ, Nat.zero_add, ni, nr, nc, ns, np, ic, nt, ei, cellsL, nh, nl, u32]) | rfl) ?_ | refine GL.loadFA I0.mono (n := 8) rfl rfl rfl rfl (Nat.le_of_ble_eq_true rfl) (by first | (conv => lhs; simp only [List.take_succ_cons, List.take_zero, List.drop_succ_cons, List.drop_zero, List.nil_append, List.cons_append, List.drop_nil, List.append_nil, List.take_nil, List.set_cons_zero, List.set_cons_succ, Nat.zero_add, ni, nr, nc, ns, np, ic, nt, ei, cellsL, nh, nl, u32]) | rfl) ?_
  refine GL.guardT rfl ?_
  refine GL.call0 I0.mono rfl (Frz.aggc (Frz.aggc (by first | exact Frz.pure rfl | exact Frz.nils | exact Frz.whole rfl rfl rfl rfl (by first | exact em_len _ _ | (rw [em_len]; omega))) (Frz.aggc (by first | exact Frz.pure rfl | exact Frz.nils | exact Frz.whole rfl rfl rfl rfl (by first | exact em_len _ _ | (rw [em_len]; omega))) (Frz.aggc (by first | exact Frz.pure rfl | exact Frz.nils | exact Frz.whole rfl rfl rfl rfl (by first | exact em_len _ _ | (rw [em_len]; omega))) (Frz.aggc (by first | exact Frz.pure rfl | exact Frz.nils | exact Frz.whole rfl rfl rfl rfl (by first | exact em_len _ _ | (rw [em_len]; omega))) Frz.aggn)))) (Frz.aggc (Frz.pure rfl) (Frz.aggc (Frz.pure rfl) (Frz.aggc (Frz.aggc (Frz.pure rfl) (Frz.aggc (Frz.pure rfl) (Frz.aggc (Frz.pure rfl) (Frz.aggc (Frz.pure rfl) (Frz.aggc (Frz.pure rfl) (Frz.aggc (Frz.pure rfl) (Frz.aggc (Frz.pure rfl) (Frz.aggc (Frz.pure rfl) Frz.aggn)))))))) Frz.aggn)))) (bef5 (h := ⟨true, 0, 60, 0, 0, 0, 0, 0⟩) (s := -(1 + within n 1000)) (bef5_out (by omega))) rfl rfl (fun _ => rfl) ?_
  refine GL.guardT rfl ?_
  refine GL.buildS I0.mono (z := [LV.bool false, LV.int .i64 0, LV.int .i64 0, LV.int .i64 0, LV.int .i64 0, LV.int .u32 0, LV.int .u32 0, LV.int .i64 0]) (cs := [_, _, _, _, _, _, _, _]) (n := 8) rfl rfl rfl (EvS.nil) rfl rfl ?_
  refine GL.guardT rfl ?_
  refine GL.bin I0.mono (v := .bool true) (by kernel_rfl) ?_
  refine GL.pick I0.mono rfl (by conv => lhs; whnf) ?_
  refine GL.move I0.mono (by conv => lhs; whnf) ?_
  refine GL.guardT rfl ?_
  first | refine GL.loadA I0.mono (n := 4) rfl rfl rfl rfl (by simp) rfl rfl (Nat.le_of_ble_eq_true rfl) (by first | (conv => lhs; simp only [List.take_succ_cons, List.take_zero, List.drop_succ_cons, List.drop_zero, List.nil_append, List.cons_append, List.drop_nil, List.append_nil, List.take_nil, List.set_cons_zero, List.set_cons_succ, Nat.zero_add, ni, nr, nc, ns, np, ic, nt, ei, cellsL, nh, nl, u32]) | rfl) ?_ | refine GL.loadFA I0.mono (n := 4) rfl rfl rfl rfl (Nat.le_of_ble_eq_true rfl) (by first | (conv => lhs; simp only [List.take_succ_cons, List.take_zero, List.drop_succ_cons, List.drop_zero, List.nil_append, List.cons_append, List.drop_nil, List.append_nil, List.take_nil, List.set_cons_zero, List.set_cons_succ, Nat.zero_add, ni, nr, nc, ns, np, ic, nt, ei, cellsL, nh, nl, u32]) | rfl) ?_
  refine GL.guardT rfl ?_
  refine GL.move I0.mono (by conv => lhs; whnf) ?_
  refine GL.guardT rfl ?_
  refine GL.buildSlice0 I0.mono (sz := 1) (z := [LV.int .i64 0]) (es := em ni [1]) rfl rfl rfl rfl (by decide) (by decide) (by decide) (FrzP.cons (S := []) (T := []) (Frz.aggc (S := []) (T := []) (Frz.pure rfl) Frz.aggn) rfl (by decide) rfl (FrzP.nil)) rfl ?_
  intro g244
  refine GL.guardT rfl ?_
  refine GL.callMW I0.mono (W := [15616]) rfl (Frz.aggc (Frz.aggc (by first | exact Frz.pure rfl | exact Frz.nils | exact Frz.whole rfl rfl rfl rfl (by first | exact em_len _ _ | (rw [em_len]; omega))) (Frz.aggc (by first | exact Frz.pure rfl | exact Frz.nils | exact Frz.whole rfl rfl rfl rfl (by first | exact em_len _ _ | (rw [em_len]; omega))) (Frz.aggc (by first | exact Frz.pure rfl | exact Frz.nils | exact Frz.whole rfl rfl rfl rfl (by first | exact em_len _ _ | (rw [em_len]; omega))) (Frz.aggc (by first | exact Frz.pure rfl | exact Frz.nils | exact Frz.whole rfl rfl rfl rfl (by first | exact em_len _ _ | (rw [em_len]; omega))) Frz.aggn)))) (Frz.aggc (Frz.pure rfl) (Frz.aggc (Frz.whole rfl rfl rfl rfl rfl) Frz.aggn))) (heads5n (n := (1 + within n 1000)) (by omega)) rfl rfl rfl (fun _ => rfl) ?_
  refine GL.guardT rfl ?_
  first | refine GL.lenF I0.mono rfl rfl rfl ?_ | refine GL.lenO I0.mono rfl rfl rfl rfl ?_ | refine GL.lenN I0.mono rfl rfl ?_
  refine GL.guardT rfl ?_
  refine GL.bin I0.mono (v := .bool true) (by kernel_rfl) ?_
  refine GL.pick I0.mono rfl (by conv => lhs; whnf) ?_
  refine GL.move I0.mono (by conv => lhs; whnf) ?_
  refine GL.guardT rfl ?_
  refine GL.call0 I0.mono rfl (Frz.aggn) (wakes5_ok) rfl rfl (fun _ => rfl) ?_
  refine GL.pick I0.mono rfl (by conv => lhs; whnf) ?_
  refine GL.assign I0.mono (by conv => lhs; whnf) ?_
  refine GL.doneT (by kernel_rfl) ?_
  refine goOn ?_
  refine Wp.retI ?_
  refine RetX.ret ?_
  refine ⟨_, _, _, _, .cons (.tmp rfl) .nil, .frz (.pure rfl), List.nodup_nil, by simp, ?_⟩
  rfl

end Go.Proofs.Ytpepcfombibpeaa
