/- The law StackTouched, walked. -/
import Derived.Test.YtffnlhjdlhpmjaaProg
import Derived.Test.YtffnlhjdlhpmjaaKn
import Derived.KernelRfl
set_option linter.all false
namespace Go.Proofs.Ytffnlhjdlhpmjaa
open Go.Proofs Mv
def dT (m : Int) : Delta := ⟨[⟨2, [4, 1], [1, m + 9]⟩, ⟨1, [6], [6]⟩, ⟨0, [], [4]⟩], [⟨5, -1, 1⟩, ⟨3, 1, 1⟩], [⟨1, -1, 2⟩]⟩
def dU (m : Int) : Delta := ⟨[⟨0, [], [4]⟩, ⟨2, [4, 1], [1, m + 9]⟩], [⟨5, -1, 1⟩], [⟨1, -1, 2⟩]⟩
def wantK (m : Int) : List SKey := [⟨1, 0⟩, ⟨1, 2⟩, ⟨2, 5⟩, ⟨2, m + 9⟩, ⟨3, 1⟩]
def listK (m : Int) : List SKey := [⟨1, 0⟩, ⟨1, 2⟩, ⟨2, 5⟩, ⟨2, m + 9⟩, ⟨3, 1⟩]
theorem facts50 : ∀ k : Nat, k < 50 → tidyD (dT k) = dU k ∧ (collB (dU k).turns).filter (fun s => !decide (s ∈ collA (dU k).turns)) ++ (collA (dU k).turns).filter (fun s => !decide (s ∈ collB (dU k).turns)) = [(k : Int) + 9] ∧ compactF (isortC cmpK [] (listK k)) = wantK k := by decide +kernel
theorem facts (m : Int) (h0 : 0 ≤ m) (h1 : m < 50) : tidyD (dT m) = dU m ∧ movedL (dU m) = [m + 9] ∧ compactF (isortC cmpK [] (listK m)) = wantK m := by
  obtain ⟨k, rfl⟩ := Int.eq_ofNat_of_zero_le h0
  obtain ⟨e1, e2, e3⟩ := facts50 k (by omega)
  refine ⟨e1, ?_, e3⟩
  rw [movedL, e2]
  simp [sorted]
theorem touchT (m : Int) (h0 : 0 ≤ m) (h1 : m < 50) : CallsV Try.prog 48 [.agg (kd (dT m))] (.sl (em kk (wantK m))) := by
  obtain ⟨e1, e2, e3⟩ := facts m h0 h1
  have := touched_walk (dT m) (dU m) (e1 ▸ tidy_ok (dT m) (okD_of rfl)) (moved_f (dU m) (okD_of rfl)) (listK m) (by rw [e2]; rfl) (by show 5 ≤ 12; decide)
  rw [e3] at this
  exact this.freeze rfl
theorem touch0 : CallsV Try.prog 48 [.agg (kd d0)] (.sl []) := by
  have e : movedL d0 = [] := by
    unfold movedL
    have : sorted [] = [] := by simp [sorted]
    exact this
  have := touched_walk d0 d0 ((show tidyD d0 = d0 from rfl) ▸ tidy_ok d0 (okD_of rfl)) (moved_f d0 (okD_of rfl)) [] (by rw [e]; rfl) (by decide)
  exact this.freeze rfl
theorem refsT (m : Int) : CallsV Try.prog 50 [.sl (em kk (wantK m))] (.sl (em kk (wantK m))) := refs_f (wantK m) (by show 5 ≤ 4294967295; decide)
theorem sameKT (m : Int) : CallsV Try.prog 47 [.sl (em kk (wantK m)), .sl (em kk (wantK m))] (.bool true) := by
  have := sameK_ok (wantK m) (wantK m) (show 5 < _ by decide) (show 5 < _ by decide)
  rwa [decide_eq_true rfl] at this
theorem sameRT (m : Int) : CallsV Try.prog 49 [.sl (em kk (wantK m)), .sl (em kk (wantK m))] (.bool true) := by
  have := sameR_ok (wantK m) (wantK m) (show 5 < _ by decide) (show 5 < _ by decide)
  rwa [decide_eq_true rfl] at this

set_option maxRecDepth 100000 in
set_option maxHeartbeats 4000000 in
theorem law_StackTouched (n : Int) : CallsV Try.prog 10 [.int .i64 n] (.bool true) := by
  refine CallsR.intro (I0.sound _) mix Try.func10 rfl rfl (by simp [Try.f10]) (by kernel_rfl) (nb := 0) ?_
  unfold Try.f10
  refine Wp.seqI ?_
  refine Wp.regI I0.mono ?_
  refine GL.assign I0.mono (by conv => lhs; whnf) ?_
  refine GL.doneF ?_
  refine goOn ?_
  refine Wp.seqI ?_
  have hw := within_in (a := n) (n := 50) (by decide)
  refine Wp.regI I0.mono ?_
  refine GL.move I0.mono (by conv => lhs; whnf) ?_
  refine GL.call0 I0.mono rfl (Frz.aggc (by first | exact Frz.pure rfl | exact Frz.pures rfl | exact Frz.nils | exact Frz.nilmE | exact Frz.fn Frz.aggn | exact Frz.whole rfl rfl rfl rfl (by first | exact em_len _ _ | (rw [em_len]; omega)) | exact (Frz.aggc (by first | exact Frz.pure rfl | exact Frz.nils | exact Frz.nilmE | exact Frz.whole rfl rfl rfl rfl (by first | exact em_len _ _ | (rw [em_len]; omega))) (Frz.aggc (by first | exact Frz.pure rfl | exact Frz.nils | exact Frz.nilmE | exact Frz.whole rfl rfl rfl rfl (by first | exact em_len _ _ | (rw [em_len]; omega))) (Frz.aggc (by first | exact Frz.pure rfl | exact Frz.nils | exact Frz.nilmE | exact Frz.whole rfl rfl rfl rfl (by first | exact em_len _ _ | (rw [em_len]; omega))) Frz.aggn)))) (Frz.aggc (by first | exact Frz.pure rfl | exact Frz.pures rfl | exact Frz.nils | exact Frz.nilmE | exact Frz.fn Frz.aggn | exact Frz.whole rfl rfl rfl rfl (by first | exact em_len _ _ | (rw [em_len]; omega)) | exact (Frz.aggc (by first | exact Frz.pure rfl | exact Frz.nils | exact Frz.nilmE | exact Frz.whole rfl rfl rfl rfl (by first | exact em_len _ _ | (rw [em_len]; omega))) (Frz.aggc (by first | exact Frz.pure rfl | exact Frz.nils | exact Frz.nilmE | exact Frz.whole rfl rfl rfl rfl (by first | exact em_len _ _ | (rw [em_len]; omega))) (Frz.aggc (by first | exact Frz.pure rfl | exact Frz.nils | exact Frz.nilmE | exact Frz.whole rfl rfl rfl rfl (by first | exact em_len _ _ | (rw [em_len]; omega))) Frz.aggn)))) (Frz.aggn))) (within_ok _ _ (by decide)) rfl rfl (fun _ => rfl) ?_
  refine GL.assign I0.mono (by conv => lhs; whnf) ?_
  refine GL.doneF ?_
  refine goOn ?_
  refine Wp.seqI ?_
  refine Wp.regI I0.mono ?_
  refine GL.buildSlice0 I0.mono (sz := 1) (z := [LV.int .i64 0]) (es := em ni [4, 1]) rfl rfl rfl rfl (by decide) (by decide) (by decide) (FrzP.cons (S := []) (T := []) (Frz.aggc (S := []) (T := []) (Frz.pure rfl) Frz.aggn) rfl (by decide) rfl (FrzP.cons (S := []) (T := []) (Frz.aggc (S := []) (T := []) (Frz.pure rfl) Frz.aggn) rfl (by decide) rfl (FrzP.nil))) rfl ?_
  intro g7
  refine GL.move I0.mono (by conv => lhs; whnf) ?_
  first | refine GL.addR I0.mono rfl rfl (by first | omega | assumption) ?_ | refine GL.bin I0.mono rfl ?_
  refine GL.buildSlice0 I0.mono (sz := 1) (z := [LV.int .i64 0]) (es := em ni [1, (within n 50) + 9]) rfl rfl rfl rfl (by decide) (by decide) (by decide) (FrzP.cons (S := []) (T := []) (Frz.aggc (S := []) (T := []) (Frz.pure rfl) Frz.aggn) rfl (by decide) rfl (FrzP.cons (S := []) (T := []) (Frz.aggc (S := []) (T := []) (Frz.pure rfl) Frz.aggn) rfl (by decide) rfl (FrzP.nil))) rfl ?_
  intro g10
  refine GL.buildS I0.mono (z := [LV.int .i64 0, LV.nils, LV.nils]) (cs := [_, _, _]) (n := 3) rfl rfl rfl (EvS.cons (by conv => lhs; whnf) (EvS.cons (by conv => lhs; whnf) (EvS.cons (by conv => lhs; whnf) (EvS.nil)))) rfl rfl ?_
  refine GL.buildSlice0 I0.mono (sz := 1) (z := [LV.int .i64 0]) (es := em ni [6]) rfl rfl rfl rfl (by decide) (by decide) (by decide) (FrzP.cons (S := []) (T := []) (Frz.aggc (S := []) (T := []) (Frz.pure rfl) Frz.aggn) rfl (by decide) rfl (FrzP.nil)) rfl ?_
  intro g12
  refine GL.buildSlice0 I0.mono (sz := 1) (z := [LV.int .i64 0]) (es := em ni [6]) rfl rfl rfl rfl (by decide) (by decide) (by decide) (FrzP.cons (S := []) (T := []) (Frz.aggc (S := []) (T := []) (Frz.pure rfl) Frz.aggn) rfl (by decide) rfl (FrzP.nil)) rfl ?_
  intro g13
  refine GL.buildS I0.mono (z := [LV.int .i64 0, LV.nils, LV.nils]) (cs := [_, _, _]) (n := 3) rfl rfl rfl (EvS.cons (by conv => lhs; whnf) (EvS.cons (by conv => lhs; whnf) (EvS.cons (by conv => lhs; whnf) (EvS.nil)))) rfl rfl ?_
  refine GL.buildSlice0 I0.mono (sz := 1) (z := [LV.int .i64 0]) (es := em ni [4]) rfl rfl rfl rfl (by decide) (by decide) (by decide) (FrzP.cons (S := []) (T := []) (Frz.aggc (S := []) (T := []) (Frz.pure rfl) Frz.aggn) rfl (by decide) rfl (FrzP.nil)) rfl ?_
  intro g15
  refine GL.buildS I0.mono (z := [LV.int .i64 0, LV.nils, LV.nils]) (cs := [_, _, _]) (n := 3) rfl rfl rfl (EvS.cons (by conv => lhs; whnf) (EvS.cons (by conv => lhs; whnf) (EvS.nil))) rfl rfl ?_
  refine GL.buildSliceM I0.mono (sz := 3) (z := [LV.int .i64 0, LV.nils, LV.nils]) (es := em kt (dT (within n 50)).turns) rfl rfl rfl rfl (by decide) (by decide) (by decide) (FrzP.cons (Frz.aggc (by first | exact Frz.pure rfl | exact Frz.nils | exact Frz.nilmE | exact Frz.whole rfl rfl rfl rfl (by first | exact em_len _ _ | (rw [em_len]; omega))) (Frz.aggc (by first | exact Frz.pure rfl | exact Frz.nils | exact Frz.nilmE | exact Frz.whole rfl rfl rfl rfl (by first | exact em_len _ _ | (rw [em_len]; omega))) (Frz.aggc (by first | exact Frz.pure rfl | exact Frz.nils | exact Frz.nilmE | exact Frz.whole rfl rfl rfl rfl (by first | exact em_len _ _ | (rw [em_len]; omega))) Frz.aggn))) rfl (by decide) rfl (FrzP.cons (Frz.aggc (by first | exact Frz.pure rfl | exact Frz.nils | exact Frz.nilmE | exact Frz.whole rfl rfl rfl rfl (by first | exact em_len _ _ | (rw [em_len]; omega))) (Frz.aggc (by first | exact Frz.pure rfl | exact Frz.nils | exact Frz.nilmE | exact Frz.whole rfl rfl rfl rfl (by first | exact em_len _ _ | (rw [em_len]; omega))) (Frz.aggc (by first | exact Frz.pure rfl | exact Frz.nils | exact Frz.nilmE | exact Frz.whole rfl rfl rfl rfl (by first | exact em_len _ _ | (rw [em_len]; omega))) Frz.aggn))) rfl (by decide) rfl (FrzP.cons (Frz.aggc (by first | exact Frz.pure rfl | exact Frz.nils | exact Frz.nilmE | exact Frz.whole rfl rfl rfl rfl (by first | exact em_len _ _ | (rw [em_len]; omega))) (Frz.aggc (by first | exact Frz.pure rfl | exact Frz.nils | exact Frz.nilmE | exact Frz.whole rfl rfl rfl rfl (by first | exact em_len _ _ | (rw [em_len]; omega))) (Frz.aggc (by first | exact Frz.pure rfl | exact Frz.nils | exact Frz.nilmE | exact Frz.whole rfl rfl rfl rfl (by first | exact em_len _ _ | (rw [em_len]; omega))) Frz.aggn))) rfl (by decide) rfl (FrzP.nil)))) rfl rfl ?_
  intro g17
  refine GL.buildS I0.mono (z := [LV.int .i64 0, LV.int .i64 0, LV.int .i64 0]) (cs := [_, _, _]) (n := 3) rfl rfl rfl (EvS.cons (by conv => lhs; whnf) (EvS.cons (by conv => lhs; whnf) (EvS.cons (by conv => lhs; whnf) (EvS.nil)))) rfl rfl ?_
  refine GL.buildS I0.mono (z := [LV.int .i64 0, LV.int .i64 0, LV.int .i64 0]) (cs := [_, _, _]) (n := 3) rfl rfl rfl (EvS.cons (by conv => lhs; whnf) (EvS.cons (by conv => lhs; whnf) (EvS.cons (by conv => lhs; whnf) (EvS.nil)))) rfl rfl ?_
  refine GL.buildSlice0 I0.mono (sz := 3) (z := [LV.int .i64 0, LV.int .i64 0, LV.int .i64 0]) (es := em kh (dT (within n 50)).locks) rfl rfl rfl rfl (by decide) (by decide) (by decide) (FrzP.cons (S := []) (T := []) (Frz.pures rfl) rfl (by decide) rfl (FrzP.cons (S := []) (T := []) (Frz.pures rfl) rfl (by decide) rfl (FrzP.nil))) rfl ?_
  intro g20
  refine GL.buildS I0.mono (z := [LV.int .i64 0, LV.int .i64 0, LV.int .i64 0]) (cs := [_, _, _]) (n := 3) rfl rfl rfl (EvS.cons (by conv => lhs; whnf) (EvS.cons (by conv => lhs; whnf) (EvS.cons (by conv => lhs; whnf) (EvS.nil)))) rfl rfl ?_
  refine GL.buildSlice0 I0.mono (sz := 3) (z := [LV.int .i64 0, LV.int .i64 0, LV.int .i64 0]) (es := em kh (dT (within n 50)).ices) rfl rfl rfl rfl (by decide) (by decide) (by decide) (FrzP.cons (S := []) (T := []) (Frz.pures rfl) rfl (by decide) rfl (FrzP.nil)) rfl ?_
  intro g22
  refine GL.buildS I0.mono (z := [LV.nils, LV.nils, LV.nils]) (cs := [_, _, _]) (n := 3) rfl rfl rfl (EvS.cons (by conv => lhs; whnf) (EvS.cons (by conv => lhs; whnf) (EvS.cons (by conv => lhs; whnf) (EvS.nil)))) rfl rfl ?_
  refine GL.alloc I0.mono (cs := [LV.nils, LV.nils, LV.nils]) rfl rfl ?_
  intro g3
  first | refine GL.storeW I0.mono (n := 3) rfl rfl rfl rfl rfl rfl rfl (by conv => lhs; whnf) rfl rfl rfl ?_ | refine GL.store I0.mono (n := 3) rfl rfl rfl rfl rfl rfl rfl rfl rfl rfl (Nat.le_of_ble_eq_true rfl) (by first | (conv => lhs; simp only [List.take_succ_cons, List.take_zero, List.drop_succ_cons, List.drop_zero, List.nil_append, List.cons_append, List.drop_nil, List.append_nil, List.take_nil, List.set_cons_zero, List.set_cons_succ, Nat.zero_add, kt, kh, kd]) | rfl) (by first | (conv => lhs; simp only [List.take_succ_cons, List.take_zero, List.drop_succ_cons, List.drop_zero, List.nil_append, List.cons_append, List.drop_nil, List.append_nil, List.take_nil, List.set_cons_zero, List.set_cons_succ, Nat.zero_add, kt, kh, kd]) | rfl) ?_
  refine GL.doneF ?_
  refine goWeak (Weak.mark _ _ [1088, 1280, 1408]) ?_
  refine Wp.seqI ?_
  refine Wp.regI I0.mono ?_
  refine GL.buildS I0.mono (z := [LV.int .i64 0, LV.int .i64 0]) (cs := [_, _]) (n := 2) rfl rfl rfl (EvS.cons (by conv => lhs; whnf) (EvS.nil)) rfl rfl ?_
  refine GL.buildS I0.mono (z := [LV.int .i64 0, LV.int .i64 0]) (cs := [_, _]) (n := 2) rfl rfl rfl (EvS.cons (by conv => lhs; whnf) (EvS.cons (by conv => lhs; whnf) (EvS.nil))) rfl rfl ?_
  refine GL.buildS I0.mono (z := [LV.int .i64 0, LV.int .i64 0]) (cs := [_, _]) (n := 2) rfl rfl rfl (EvS.cons (by conv => lhs; whnf) (EvS.cons (by conv => lhs; whnf) (EvS.nil))) rfl rfl ?_
  refine GL.move I0.mono (by conv => lhs; whnf) ?_
  first | refine GL.addR I0.mono rfl rfl (by first | omega | assumption) ?_ | refine GL.bin I0.mono rfl ?_
  refine GL.buildS I0.mono (z := [LV.int .i64 0, LV.int .i64 0]) (cs := [_, _]) (n := 2) rfl rfl rfl (EvS.cons (by conv => lhs; whnf) (EvS.cons (by conv => lhs; whnf) (EvS.nil))) rfl rfl ?_
  refine GL.buildS I0.mono (z := [LV.int .i64 0, LV.int .i64 0]) (cs := [_, _]) (n := 2) rfl rfl rfl (EvS.cons (by conv => lhs; whnf) (EvS.cons (by conv => lhs; whnf) (EvS.nil))) rfl rfl ?_
  refine GL.buildSlice0 I0.mono (sz := 2) (z := [LV.int .i64 0, LV.int .i64 0]) (es := em kk (wantK (within n 50))) rfl rfl rfl rfl (by decide) (by decide) (by decide) (FrzP.cons (S := []) (T := []) (Frz.pures rfl) rfl (by decide) rfl (FrzP.cons (S := []) (T := []) (Frz.pures rfl) rfl (by decide) rfl (FrzP.cons (S := []) (T := []) (Frz.pures rfl) rfl (by decide) rfl (FrzP.cons (S := []) (T := []) (Frz.pures rfl) rfl (by decide) rfl (FrzP.cons (S := []) (T := []) (Frz.pures rfl) rfl (by decide) rfl (FrzP.nil)))))) rfl ?_
  intro g31
  refine GL.assign I0.mono (by conv => lhs; whnf) ?_
  refine GL.doneF ?_
  refine goWeak (Weak.mark _ _ [1984]) ?_
  refine Wp.seqI ?_
  refine Wp.regI I0.mono ?_
  first | refine GL.loadW I0.mono (n := 3) rfl rfl rfl rfl (by simp) rfl rfl rfl ?_ | refine GL.loadFW I0.mono (n := 3) rfl rfl (em_get (by omega)) rfl rfl ?_ | refine GL.loadA I0.mono (n := 3) rfl rfl rfl rfl (by simp) rfl rfl (Nat.le_of_ble_eq_true rfl) (by first | (conv => lhs; simp only [List.take_succ_cons, List.take_zero, List.drop_succ_cons, List.drop_zero, List.nil_append, List.cons_append, List.drop_nil, List.append_nil, List.take_nil, List.set_cons_zero, List.set_cons_succ, Nat.zero_add, kt, kh, kd]) | rfl) ?_ | refine GL.loadFA I0.mono (n := 3) rfl rfl (em_get (by omega)) rfl (Nat.le_of_ble_eq_true rfl) (by first | (conv => lhs; simp only [List.take_succ_cons, List.take_zero, List.drop_succ_cons, List.drop_zero, List.nil_append, List.cons_append, List.drop_nil, List.append_nil, List.take_nil, List.set_cons_zero, List.set_cons_succ, Nat.zero_add, kt, kh, kd]) | rfl) ?_
  refine GL.call0 I0.mono rfl (Frz.aggc (by first | exact Frz.pures rfl | exact (Frz.aggc (by first | exact Frz.pure rfl | exact Frz.nils | exact Frz.nilmE | exact Frz.whole rfl rfl rfl rfl (by first | exact em_len _ _ | (rw [em_len]; omega))) (Frz.aggc (by first | exact Frz.pure rfl | exact Frz.nils | exact Frz.nilmE | exact Frz.whole rfl rfl rfl rfl (by first | exact em_len _ _ | (rw [em_len]; omega))) (Frz.aggc (by first | exact Frz.pure rfl | exact Frz.nils | exact Frz.nilmE | exact Frz.whole rfl rfl rfl rfl (by first | exact em_len _ _ | (rw [em_len]; omega))) Frz.aggn)))) Frz.aggn) (touchT (within n 50) hw.1 hw.2) rfl rfl (fun _ => rfl) ?_
  refine GL.move I0.mono (by conv => lhs; whnf) ?_
  refine GL.call0 I0.mono rfl (Frz.aggc (by first | exact Frz.pure rfl | exact Frz.whole rfl rfl rfl rfl rfl) (Frz.aggc (by first | exact Frz.pure rfl | exact Frz.whole rfl rfl rfl rfl rfl) Frz.aggn)) (sameKT (within n 50)) rfl rfl (fun _ => rfl) ?_
  refine GL.move I0.mono (by conv => lhs; whnf) ?_
  refine GL.guardT rfl ?_
  refine GL.buildS I0.mono (z := [LV.nils, LV.nils, LV.nils]) (cs := [_, _, _]) (n := 3) rfl rfl rfl (EvS.nil) rfl rfl ?_
  refine GL.guardT rfl ?_
  refine GL.call0 I0.mono rfl (Frz.aggc (by first | exact Frz.pures rfl | exact (Frz.aggc (by first | exact Frz.pure rfl | exact Frz.nils | exact Frz.nilmE | exact Frz.whole rfl rfl rfl rfl (by first | exact em_len _ _ | (rw [em_len]; omega))) (Frz.aggc (by first | exact Frz.pure rfl | exact Frz.nils | exact Frz.nilmE | exact Frz.whole rfl rfl rfl rfl (by first | exact em_len _ _ | (rw [em_len]; omega))) (Frz.aggc (by first | exact Frz.pure rfl | exact Frz.nils | exact Frz.nilmE | exact Frz.whole rfl rfl rfl rfl (by first | exact em_len _ _ | (rw [em_len]; omega))) Frz.aggn)))) Frz.aggn) (touch0) rfl rfl (fun _ => rfl) ?_
  refine GL.guardT rfl ?_
  refine GL.lenF I0.mono rfl rfl rfl ?_
  refine GL.guardT rfl ?_
  refine GL.bin I0.mono (v := .bool true) (by kernel_rfl) ?_
  refine GL.pick I0.mono rfl (by conv => lhs; whnf) ?_
  refine GL.move I0.mono (by conv => lhs; whnf) ?_
  refine GL.guardT rfl ?_
  first | refine GL.loadW I0.mono (n := 3) rfl rfl rfl rfl (by simp) rfl rfl rfl ?_ | refine GL.loadFW I0.mono (n := 3) rfl rfl (em_get (by omega)) rfl rfl ?_ | refine GL.loadA I0.mono (n := 3) rfl rfl rfl rfl (by simp) rfl rfl (Nat.le_of_ble_eq_true rfl) (by first | (conv => lhs; simp only [List.take_succ_cons, List.take_zero, List.drop_succ_cons, List.drop_zero, List.nil_append, List.cons_append, List.drop_nil, List.append_nil, List.take_nil, List.set_cons_zero, List.set_cons_succ, Nat.zero_add, kt, kh, kd]) | rfl) ?_ | refine GL.loadFA I0.mono (n := 3) rfl rfl (em_get (by omega)) rfl (Nat.le_of_ble_eq_true rfl) (by first | (conv => lhs; simp only [List.take_succ_cons, List.take_zero, List.drop_succ_cons, List.drop_zero, List.nil_append, List.cons_append, List.drop_nil, List.append_nil, List.take_nil, List.set_cons_zero, List.set_cons_succ, Nat.zero_add, kt, kh, kd]) | rfl) ?_
  refine GL.guardT rfl ?_
  refine GL.call0 I0.mono rfl (Frz.aggc (by first | exact Frz.pures rfl | exact (Frz.aggc (by first | exact Frz.pure rfl | exact Frz.nils | exact Frz.nilmE | exact Frz.whole rfl rfl rfl rfl (by first | exact em_len _ _ | (rw [em_len]; omega))) (Frz.aggc (by first | exact Frz.pure rfl | exact Frz.nils | exact Frz.nilmE | exact Frz.whole rfl rfl rfl rfl (by first | exact em_len _ _ | (rw [em_len]; omega))) (Frz.aggc (by first | exact Frz.pure rfl | exact Frz.nils | exact Frz.nilmE | exact Frz.whole rfl rfl rfl rfl (by first | exact em_len _ _ | (rw [em_len]; omega))) Frz.aggn)))) Frz.aggn) (touchT (within n 50) hw.1 hw.2) rfl rfl (fun _ => rfl) ?_
  refine GL.guardT rfl ?_
  refine GL.call0 I0.mono rfl (Frz.aggc (by first | exact Frz.pure rfl | exact Frz.whole rfl rfl rfl rfl rfl) Frz.aggn) (refsT (within n 50)) rfl rfl (fun _ => rfl) ?_
  refine GL.guardT rfl ?_
  refine GL.move I0.mono (by conv => lhs; whnf) ?_
  refine GL.guardT rfl ?_
  refine GL.call0 I0.mono rfl (Frz.aggc (by first | exact Frz.pure rfl | exact Frz.whole rfl rfl rfl rfl rfl) Frz.aggn) (refsT (within n 50)) rfl rfl (fun _ => rfl) ?_
  refine GL.guardT rfl ?_
  refine GL.call0 I0.mono rfl (Frz.aggc (by first | exact Frz.pure rfl | exact Frz.whole rfl rfl rfl rfl rfl) (Frz.aggc (by first | exact Frz.pure rfl | exact Frz.whole rfl rfl rfl rfl rfl) Frz.aggn)) (sameRT (within n 50)) rfl rfl (fun _ => rfl) ?_
  refine GL.pick I0.mono rfl (by conv => lhs; whnf) ?_
  refine GL.move I0.mono (by conv => lhs; whnf) ?_
  refine GL.guardT rfl ?_
  refine GL.call0 I0.mono rfl (Frz.aggn) (wakes14_ok) rfl rfl (fun _ => rfl) ?_
  refine GL.pick I0.mono rfl (by conv => lhs; whnf) ?_
  refine GL.assign I0.mono (by conv => lhs; whnf) ?_
  refine GL.doneF ?_
  refine goOn ?_
  refine Wp.retI ?_
  refine RetX.ret ?_
  refine ⟨_, _, _, _, .cons (.tmp rfl) .nil, .frz (.pure rfl), List.nodup_nil, by simp, ?_⟩
  rfl

end Go.Proofs.Ytffnlhjdlhpmjaa
