/- The law of the proofs by hand, walked. -/
import Derived.Test.YtpepcfombibpeaaGj
import Derived.KernelRfl
set_option linter.unusedVariables false
set_option linter.unusedSimpArgs false
namespace Go.Proofs.Ytpepcfombibpeaa
open Go.Proofs Mv



def inst11 : Inst := ⟨[⟨6, 10, 40⟩], [⟨3, 0, 40, 2⟩, ⟨-1, 30, 35, 0⟩], [], [[0, 4, 6], [5, 0, 2], [7, 3, 0]]⟩
theorem short11 : inst11.Short := ⟨by unfold Short; decide, by unfold Short; decide, by unfold Short; decide, by unfold Short; decide, by show ∀ r ∈ _, List.length r < 1073741824; decide⟩
/-- Proofs of this problem, right ones or not. -/
theorem r11 (c : Cert) {o : Option Trip} (b : Bool) (he : eval inst11 c.car c.stops = o) (h1 : c.stops.length < 3) (h2 : c.arrive.length < 3) (h3 : c.load.length < 3) (h : right inst11 c = b) (ho : (o.all fun T => decide (T.t0.length < 3) && decide (T.t1.length < 3)) = true) : CallsV Try.prog 59 [ei inst11, ec c] (.bool b) := by
  rw [← h]
  refine right_is inst11 short11 c (by unfold Short; omega) (by omega) (by omega) fun T hT => ?_
  rw [← he, hT] at ho
  simp at ho
  exact ⟨by unfold Short; omega, by unfold Short; omega⟩
def cases11 (n : Int) : List Cert := [⟨0, [1, 2], [14, 30 + n], [3, 2], 13⟩, ⟨0, [1, 2], [14, 30], [3, 2 - n], 13⟩, ⟨0, [1, 2], [14, 30], [3, 2], 13 - n⟩, ⟨0, [2, 1], [30, 33], [-1, 2], 14⟩, ⟨0, [1, 2], [14], [3], 13⟩, ⟨0, [1], [14, 30], [3, 2], 13⟩, ⟨n, [1], [14], [3], 9⟩, ⟨0, [2 + n], [14], [3], 9⟩]
theorem e12 : eval inst11 0 [1, 2] = some ⟨[14, 30], [3, 2], 13, 37⟩ := by decide +kernel
theorem r12 (c : Cert) (hc : c.car = 0) (hs : c.stops = [1, 2]) : right inst11 c = (decide ([14, 30] = c.arrive) && decide ([3, 2] = c.load) && decide (13 = c.cost)) := by
  unfold right
  rw [hc, hs, e12]
theorem bad11 {n : Int} (h : 1 ≤ n) (k : Nat) (hk : k < 8) : CallsV Try.prog 59 [ei inst11, ec ((cases11 n).getD k default)] (.bool false) := by
  match k with
  | 0 => exact r11 ⟨0, [1, 2], [14, 30 + n], [3, 2], 13⟩ false e12 (by simp) (by simp) (by simp) (by rw [r12 _ rfl rfl]; simp; omega) (by decide +kernel)
  | 1 => exact r11 ⟨0, [1, 2], [14, 30], [3, 2 - n], 13⟩ false e12 (by simp) (by simp) (by simp) (by rw [r12 _ rfl rfl]; simp; omega) (by decide +kernel)
  | 2 => exact r11 ⟨0, [1, 2], [14, 30], [3, 2], 13 - n⟩ false e12 (by simp) (by simp) (by simp) (by rw [r12 _ rfl rfl]; simp; omega) (by decide +kernel)
  | 3 => exact r11 ⟨0, [2, 1], [30, 33], [-1, 2], 14⟩ false rfl (by simp) (by simp) (by simp) (by decide +kernel) (by decide +kernel)
  | 4 => exact r11 ⟨0, [1, 2], [14], [3], 13⟩ false rfl (by simp) (by simp) (by simp) (by decide +kernel) (by decide +kernel)
  | 5 => exact r11 ⟨0, [1], [14, 30], [3, 2], 13⟩ false rfl (by simp) (by simp) (by simp) (by decide +kernel) (by decide +kernel)
  | 6 =>
    have he : eval inst11 n [1] = none := by
      unfold eval
      rw [if_pos]
      exact .inr (.inl (by show n ≥ (1 : Int); omega))
    exact r11 ⟨n, [1], [14], [3], 9⟩ false he (by simp) (by simp) (by simp) (by unfold right; rw [he]) rfl
  | 7 =>
    have he : eval inst11 0 [2 + n] = none := by
      unfold eval
      rw [if_pos]
      refine .inr (.inr ?_)
      cases ho : order inst11 [2 + n] with
      | false => rfl
      | true =>
        have := isStop_le (order_stop ho 0 (by simp))
        have h2 : (2 + n) ≤ (inst11.stops.length : Int) := by simpa using this.2
        have : (inst11.stops.length : Int) = 2 := rfl
        omega
    exact r11 ⟨0, [2 + n], [14], [3], 9⟩ false he (by simp) (by simp) (by simp) (by unfold right; rw [he]) rfl


theorem make11 : CallsV Try.prog 58 [ei inst11, .int .i64 0, .sl (em ni [1, 2])] (.tup [.agg (kc ⟨0, [1, 2], [14, 30], [3, 2], 13⟩), .bool true]) := by
  have := make_ok inst11 short11 0 [1, 2] (by unfold Short; decide)
  rwa [show certOf inst11 0 [1, 2] = some ⟨0, [1, 2], [14, 30], [3, 2], 13⟩ by decide +kernel] at this

set_option maxRecDepth 100000 in
set_option maxHeartbeats 4000000 in
theorem law_CertForms (n : Int) : CallsV Try.prog 20 [.int .i64 n] (.bool true) := by
  refine CallsR.intro (I0.sound _) mix Try.func20 rfl rfl (by simp [Try.f20]) (by kernel_rfl) (nb := 0) ?_
  unfold Try.f20
  refine Wp.seqI ?_
  refine Wp.regI I0.mono ?_
  refine GL.assign I0.mono (by conv => lhs; whnf) ?_
  refine GL.doneF ?_
  refine goOn ?_
  refine Wp.seqI ?_
  refine Wp.regI I0.mono ?_
  refine GL.buildS I0.mono (z := [LV.int .i64 0, LV.int .i64 0, LV.int .i64 0]) (cs := [_, _, _]) (n := 3) rfl rfl rfl (EvS.cons (by conv => lhs; whnf) (EvS.cons (by conv => lhs; whnf) (EvS.cons (by conv => lhs; whnf) (EvS.nil)))) rfl rfl ?_
  refine GL.buildSlice0 I0.mono (sz := 3) (z := [LV.int .i64 0, LV.int .i64 0, LV.int .i64 0]) (es := em nc [⟨6, 10, 40⟩]) rfl rfl rfl rfl (by decide) (by decide) (by decide) (FrzP.cons (S := []) (T := []) (Frz.pures rfl) rfl (by decide) rfl (FrzP.nil)) rfl ?_
  intro g10
  refine GL.buildS I0.mono (z := [LV.int .i64 0, LV.int .i64 0, LV.int .i64 0, LV.int .i64 0]) (cs := [_, _, _, _]) (n := 4) rfl rfl rfl (EvS.cons (by conv => lhs; whnf) (EvS.cons (by conv => lhs; whnf) (EvS.cons (by conv => lhs; whnf) (EvS.nil)))) rfl rfl ?_
  refine GL.buildS I0.mono (z := [LV.int .i64 0, LV.int .i64 0, LV.int .i64 0, LV.int .i64 0]) (cs := [_, _, _, _]) (n := 4) rfl rfl rfl (EvS.cons (by conv => lhs; whnf) (EvS.cons (by conv => lhs; whnf) (EvS.cons (by conv => lhs; whnf) (EvS.nil)))) rfl rfl ?_
  refine GL.buildSlice0 I0.mono (sz := 4) (z := [LV.int .i64 0, LV.int .i64 0, LV.int .i64 0, LV.int .i64 0]) (es := em ns [⟨3, 0, 40, 2⟩, ⟨-1, 30, 35, 0⟩]) rfl rfl rfl rfl (by decide) (by decide) (by decide) (FrzP.cons (S := []) (T := []) (Frz.pures rfl) rfl (by decide) rfl (FrzP.cons (S := []) (T := []) (Frz.pures rfl) rfl (by decide) rfl (FrzP.nil))) rfl ?_
  intro g13
  refine GL.buildSlice0 I0.mono (sz := 1) (z := [LV.int .i64 0]) (es := em ni [0, 4, 6]) rfl rfl rfl rfl (by decide) (by decide) (by decide) (FrzP.cons (S := []) (T := []) (Frz.aggc (S := []) (T := []) (Frz.pure rfl) Frz.aggn) rfl (by decide) rfl (FrzP.cons (S := []) (T := []) (Frz.aggc (S := []) (T := []) (Frz.pure rfl) Frz.aggn) rfl (by decide) rfl (FrzP.cons (S := []) (T := []) (Frz.aggc (S := []) (T := []) (Frz.pure rfl) Frz.aggn) rfl (by decide) rfl (FrzP.nil)))) rfl ?_
  intro g14
  refine GL.buildSlice0 I0.mono (sz := 1) (z := [LV.int .i64 0]) (es := em ni [5, 0, 2]) rfl rfl rfl rfl (by decide) (by decide) (by decide) (FrzP.cons (S := []) (T := []) (Frz.aggc (S := []) (T := []) (Frz.pure rfl) Frz.aggn) rfl (by decide) rfl (FrzP.cons (S := []) (T := []) (Frz.aggc (S := []) (T := []) (Frz.pure rfl) Frz.aggn) rfl (by decide) rfl (FrzP.cons (S := []) (T := []) (Frz.aggc (S := []) (T := []) (Frz.pure rfl) Frz.aggn) rfl (by decide) rfl (FrzP.nil)))) rfl ?_
  intro g15
  refine GL.buildSlice0 I0.mono (sz := 1) (z := [LV.int .i64 0]) (es := em ni [7, 3, 0]) rfl rfl rfl rfl (by decide) (by decide) (by decide) (FrzP.cons (S := []) (T := []) (Frz.aggc (S := []) (T := []) (Frz.pure rfl) Frz.aggn) rfl (by decide) rfl (FrzP.cons (S := []) (T := []) (Frz.aggc (S := []) (T := []) (Frz.pure rfl) Frz.aggn) rfl (by decide) rfl (FrzP.cons (S := []) (T := []) (Frz.aggc (S := []) (T := []) (Frz.pure rfl) Frz.aggn) rfl (by decide) rfl (FrzP.nil)))) rfl ?_
  intro g16
  refine GL.buildSliceM I0.mono (sz := 1) (z := [LV.nils]) (es := em nr [[0, 4, 6], [5, 0, 2], [7, 3, 0]]) rfl rfl rfl rfl (by decide) (by decide) (by decide) (FrzP.cons (Frz.aggc (by exact Frz.whole rfl rfl rfl rfl (by exact em_len _ _)) Frz.aggn) rfl (by decide) rfl (FrzP.cons (Frz.aggc (by exact Frz.whole rfl rfl rfl rfl (by exact em_len _ _)) Frz.aggn) rfl (by decide) rfl (FrzP.cons (Frz.aggc (by exact Frz.whole rfl rfl rfl rfl (by exact em_len _ _)) Frz.aggn) rfl (by decide) rfl (FrzP.nil)))) rfl rfl ?_
  intro g17
  refine GL.buildS I0.mono (z := [LV.nils, LV.nils, LV.nils, LV.nils]) (cs := [_, _, _, _]) (n := 4) rfl rfl rfl (EvS.cons (by conv => lhs; whnf) (EvS.cons (by conv => lhs; whnf) (EvS.cons (by conv => lhs; whnf) (EvS.nil)))) rfl rfl ?_
  refine GL.alloc I0.mono (cs := [LV.nils, LV.nils, LV.nils, LV.nils]) rfl rfl ?_
  intro g3
  refine GL.storeW I0.mono (n := 4) rfl rfl rfl rfl rfl rfl rfl (by conv => lhs; whnf) rfl rfl rfl ?_
  refine GL.doneF ?_
  refine goOn ?_
  refine Wp.seqI ?_
  refine Wp.regI I0.mono ?_
  refine GL.loadW I0.mono (n := 4) rfl rfl rfl rfl (by simp) (by rfl) rfl rfl ?_
  refine GL.buildSlice0 I0.mono (sz := 1) (z := [LV.int .i64 0]) (es := em ni [1, 2]) rfl rfl rfl rfl (by decide) (by decide) (by decide) (FrzP.cons (S := []) (T := []) (Frz.aggc (S := []) (T := []) (Frz.pure rfl) Frz.aggn) rfl (by decide) rfl (FrzP.cons (S := []) (T := []) (Frz.aggc (S := []) (T := []) (Frz.pure rfl) Frz.aggn) rfl (by decide) rfl (FrzP.nil))) rfl ?_
  intro g21
  refine GL.callM0 I0.mono rfl (Frz.aggc (by exact (Frz.aggc (by exact Frz.whole rfl rfl rfl rfl (by exact em_len _ _)) (Frz.aggc (by exact Frz.whole rfl rfl rfl rfl (by exact em_len _ _)) (Frz.aggc (by exact Frz.nils) (Frz.aggc (by exact Frz.whole rfl rfl rfl rfl (by exact em_len _ _)) Frz.aggn))))) (Frz.aggc (by exact Frz.pure rfl) (Frz.aggc (by exact Frz.whole rfl rfl rfl rfl (by exact em_len _ _)) (Frz.aggn)))) (make11) rfl rfl (fun _ => rfl) ?_
  refine GL.move I0.mono (by conv => lhs; whnf) ?_
  refine GL.extract I0.mono rfl rfl ?_
  refine GL.extract I0.mono rfl rfl ?_
  refine GL.alloc I0.mono (cs := [LV.int .i64 0, LV.nils, LV.nils, LV.nils, LV.int .i64 0]) rfl rfl ?_
  intro g4
  refine GL.storeW I0.mono (n := 5) rfl rfl rfl rfl rfl rfl rfl (by conv => lhs; whnf) rfl rfl rfl ?_
  refine GL.assign I0.mono (by conv => lhs; whnf) ?_
  refine GL.doneF ?_
  refine goOn ?_
  refine Wp.seqI ?_
  refine Wp.regI I0.mono ?_
  refine GL.buildSlice0 I0.mono (sz := 1) (z := [LV.int .i64 0]) (es := em ni [1, 2]) rfl rfl rfl rfl (by decide) (by decide) (by decide) (FrzP.cons (S := []) (T := []) (Frz.aggc (S := []) (T := []) (Frz.pure rfl) Frz.aggn) rfl (by decide) rfl (FrzP.cons (S := []) (T := []) (Frz.aggc (S := []) (T := []) (Frz.pure rfl) Frz.aggn) rfl (by decide) rfl (FrzP.nil))) rfl ?_
  intro g25
  refine GL.buildSlice0 I0.mono (sz := 1) (z := [LV.int .i64 0]) (es := em ni [14, 30]) rfl rfl rfl rfl (by decide) (by decide) (by decide) (FrzP.cons (S := []) (T := []) (Frz.aggc (S := []) (T := []) (Frz.pure rfl) Frz.aggn) rfl (by decide) rfl (FrzP.cons (S := []) (T := []) (Frz.aggc (S := []) (T := []) (Frz.pure rfl) Frz.aggn) rfl (by decide) rfl (FrzP.nil))) rfl ?_
  intro g26
  refine GL.buildSlice0 I0.mono (sz := 1) (z := [LV.int .i64 0]) (es := em ni [3, 2]) rfl rfl rfl rfl (by decide) (by decide) (by decide) (FrzP.cons (S := []) (T := []) (Frz.aggc (S := []) (T := []) (Frz.pure rfl) Frz.aggn) rfl (by decide) rfl (FrzP.cons (S := []) (T := []) (Frz.aggc (S := []) (T := []) (Frz.pure rfl) Frz.aggn) rfl (by decide) rfl (FrzP.nil))) rfl ?_
  intro g27
  refine GL.buildS I0.mono (z := [LV.int .i64 0, LV.nils, LV.nils, LV.nils, LV.int .i64 0]) (cs := [_, _, _, _, _]) (n := 5) rfl rfl rfl (EvS.cons (by conv => lhs; whnf) (EvS.cons (by conv => lhs; whnf) (EvS.cons (by conv => lhs; whnf) (EvS.cons (by conv => lhs; whnf) (EvS.nil))))) rfl rfl ?_
  refine GL.alloc I0.mono (cs := [LV.int .i64 0, LV.nils, LV.nils, LV.nils, LV.int .i64 0]) rfl rfl ?_
  intro g6
  refine GL.storeW I0.mono (n := 5) rfl rfl rfl rfl rfl rfl rfl (by conv => lhs; whnf) rfl rfl rfl ?_
  refine GL.doneF ?_
  refine goOn ?_
  refine Wp.seqI ?_
  refine Wp.seqI ?_
  refine Wp.regI I0.mono ?_
  refine GL.move I0.mono (by conv => lhs; whnf) ?_
  refine GL.un I0.mono rfl ?_
  refine GL.move I0.mono (by conv => lhs; whnf) ?_
  refine GL.guardT rfl ?_
  refine GL.fieldAddr I0.mono (o := 0) rfl rfl rfl rfl (by conv => lhs; whnf) ?_
  refine GL.guardT rfl ?_
  refine GL.load I0.mono rfl rfl rfl rfl (by simp) (by rfl) rfl ?_
  refine GL.guardT rfl ?_
  refine GL.bin I0.mono (v := .bool false) (by kernel_rfl) ?_
  refine GL.pick I0.mono rfl (by conv => lhs; whnf) ?_
  refine GL.move I0.mono (by conv => lhs; whnf) ?_
  refine GL.guardT rfl ?_
  refine GL.fieldAddr I0.mono (o := 1) rfl rfl rfl rfl (by conv => lhs; whnf) ?_
  refine GL.guardT rfl ?_
  refine GL.load I0.mono rfl rfl rfl rfl (by simp) (by rfl) rfl ?_
  refine GL.guardT rfl ?_
  refine GL.fieldAddr I0.mono (o := 1) rfl rfl rfl rfl (by conv => lhs; whnf) ?_
  refine GL.guardT rfl ?_
  refine GL.load I0.mono rfl rfl rfl rfl (by simp) (by rfl) rfl ?_
  refine GL.guardT rfl ?_
  refine GL.callM0 I0.mono rfl (Frz.aggc (by exact Frz.pure rfl) (Frz.aggc (by exact Frz.whole rfl rfl rfl rfl (by exact em_len _ _)) (Frz.aggn))) (same_ok [1, 2] [1, 2] (by unfold Short; decide) (by unfold Short; decide)) rfl rfl (fun _ => rfl) ?_
  refine GL.guardT rfl ?_
  refine GL.un I0.mono rfl ?_
  refine GL.pick I0.mono rfl (by conv => lhs; whnf) ?_
  refine GL.move I0.mono (by conv => lhs; whnf) ?_
  refine GL.guardT rfl ?_
  refine GL.fieldAddr I0.mono (o := 2) rfl rfl rfl rfl (by conv => lhs; whnf) ?_
  refine GL.guardT rfl ?_
  refine GL.load I0.mono rfl rfl rfl rfl (by simp) (by rfl) rfl ?_
  refine GL.guardT rfl ?_
  refine GL.fieldAddr I0.mono (o := 2) rfl rfl rfl rfl (by conv => lhs; whnf) ?_
  refine GL.guardT rfl ?_
  refine GL.load I0.mono rfl rfl rfl rfl (by simp) (by rfl) rfl ?_
  refine GL.guardT rfl ?_
  refine GL.callM0 I0.mono rfl (Frz.aggc (by exact Frz.pure rfl) (Frz.aggc (by exact Frz.whole rfl rfl rfl rfl (by exact em_len _ _)) (Frz.aggn))) (same_ok [14, 30] [14, 30] (by unfold Short; decide) (by unfold Short; decide)) rfl rfl (fun _ => rfl) ?_
  refine GL.guardT rfl ?_
  refine GL.un I0.mono rfl ?_
  refine GL.pick I0.mono rfl (by conv => lhs; whnf) ?_
  refine GL.move I0.mono (by conv => lhs; whnf) ?_
  refine GL.guardT rfl ?_
  refine GL.fieldAddr I0.mono (o := 3) rfl rfl rfl rfl (by conv => lhs; whnf) ?_
  refine GL.guardT rfl ?_
  refine GL.load I0.mono rfl rfl rfl rfl (by simp) (by rfl) rfl ?_
  refine GL.guardT rfl ?_
  refine GL.fieldAddr I0.mono (o := 3) rfl rfl rfl rfl (by conv => lhs; whnf) ?_
  refine GL.guardT rfl ?_
  refine GL.load I0.mono rfl rfl rfl rfl (by simp) (by rfl) rfl ?_
  refine GL.guardT rfl ?_
  refine GL.callM0 I0.mono rfl (Frz.aggc (by exact Frz.pure rfl) (Frz.aggc (by exact Frz.whole rfl rfl rfl rfl (by exact em_len _ _)) (Frz.aggn))) (same_ok [3, 2] [3, 2] (by unfold Short; decide) (by unfold Short; decide)) rfl rfl (fun _ => rfl) ?_
  refine GL.guardT rfl ?_
  refine GL.un I0.mono rfl ?_
  refine GL.pick I0.mono rfl (by conv => lhs; whnf) ?_
  refine GL.move I0.mono (by conv => lhs; whnf) ?_
  refine GL.guardT rfl ?_
  refine GL.fieldAddr I0.mono (o := 4) rfl rfl rfl rfl (by conv => lhs; whnf) ?_
  refine GL.guardT rfl ?_
  refine GL.load I0.mono rfl rfl rfl rfl (by simp) (by rfl) rfl ?_
  refine GL.guardT rfl ?_
  refine GL.bin I0.mono (v := .bool false) (by kernel_rfl) ?_
  refine GL.pick I0.mono rfl (by conv => lhs; whnf) ?_
  refine GL.move I0.mono (by conv => lhs; whnf) ?_
  refine GL.guardT rfl ?_
  refine GL.loadW I0.mono (n := 4) rfl rfl rfl rfl (by simp) (by rfl) rfl rfl ?_
  refine GL.guardT rfl ?_
  refine GL.loadW I0.mono (n := 5) rfl rfl rfl rfl (by simp) (by rfl) rfl rfl ?_
  refine GL.guardT rfl ?_
  refine GL.call0 I0.mono rfl (Frz.aggc (by exact (Frz.aggc (by exact Frz.whole rfl rfl rfl rfl (by exact em_len _ _)) (Frz.aggc (by exact Frz.whole rfl rfl rfl rfl (by exact em_len _ _)) (Frz.aggc (by exact Frz.nils) (Frz.aggc (by exact Frz.whole rfl rfl rfl rfl (by exact em_len _ _)) Frz.aggn))))) (Frz.aggc (by exact (Frz.aggc (by exact Frz.pure rfl) (Frz.aggc (by exact Frz.whole rfl rfl rfl rfl (by exact em_len _ _)) (Frz.aggc (by exact Frz.whole rfl rfl rfl rfl (by exact em_len _ _)) (Frz.aggc (by exact Frz.whole rfl rfl rfl rfl (by exact em_len _ _)) (Frz.aggc (by exact Frz.pure rfl) Frz.aggn)))))) (Frz.aggn))) (r11 ⟨0, [1, 2], [14, 30], [3, 2], 13⟩ true rfl (by simp) (by simp) (by simp) (by decide +kernel) (by decide +kernel)) rfl rfl (fun _ => rfl) ?_
  refine GL.guardT rfl ?_
  refine GL.un I0.mono rfl ?_
  refine GL.pick I0.mono rfl (by conv => lhs; whnf) ?_
  refine GL.doneF ?_
  refine goOn ?_
  refine Wp.condF rfl ?_
  refine Wp.skipI ?_
  refine goOn ?_
  refine Wp.seqI ?_
  have hw := within_in (a := n) (n := 100) (by decide)
  refine Wp.regI I0.mono ?_
  refine GL.move I0.mono (by conv => lhs; whnf) ?_
  refine GL.call0 I0.mono rfl (Frz.aggc (by exact Frz.pure rfl) (Frz.aggc (by exact Frz.pure rfl) (Frz.aggn))) (within_ok n 100 (by decide)) rfl rfl (fun _ => rfl) ?_
  refine GL.addR I0.mono rfl rfl (by omega) ?_
  refine GL.assign I0.mono (by conv => lhs; whnf) ?_
  refine GL.doneF ?_
  refine goOn ?_
  refine Wp.seqI ?_
  refine Wp.seqI ?_
  refine Wp.regI I0.mono ?_
  refine GL.buildSlice0 I0.mono (sz := 1) (z := [LV.int .i64 0]) (es := em ni [1, 2]) rfl rfl rfl rfl (by decide) (by decide) (by decide) (FrzP.cons (S := []) (T := []) (Frz.aggc (S := []) (T := []) (Frz.pure rfl) Frz.aggn) rfl (by decide) rfl (FrzP.cons (S := []) (T := []) (Frz.aggc (S := []) (T := []) (Frz.pure rfl) Frz.aggn) rfl (by decide) rfl (FrzP.nil))) rfl ?_
  intro g74
  refine GL.move I0.mono (by conv => lhs; whnf) ?_
  refine GL.addR I0.mono rfl rfl (by omega) ?_
  refine GL.buildSlice0 I0.mono (sz := 1) (z := [LV.int .i64 0]) (es := em ni [14, 30 + (1 + within n 100)]) rfl rfl rfl rfl (by decide) (by decide) (by decide) (FrzP.cons (S := []) (T := []) (Frz.aggc (S := []) (T := []) (Frz.pure rfl) Frz.aggn) rfl (by decide) rfl (FrzP.cons (S := []) (T := []) (Frz.aggc (S := []) (T := []) (Frz.pure rfl) Frz.aggn) rfl (by decide) rfl (FrzP.nil))) rfl ?_
  intro g77
  refine GL.buildSlice0 I0.mono (sz := 1) (z := [LV.int .i64 0]) (es := em ni [3, 2]) rfl rfl rfl rfl (by decide) (by decide) (by decide) (FrzP.cons (S := []) (T := []) (Frz.aggc (S := []) (T := []) (Frz.pure rfl) Frz.aggn) rfl (by decide) rfl (FrzP.cons (S := []) (T := []) (Frz.aggc (S := []) (T := []) (Frz.pure rfl) Frz.aggn) rfl (by decide) rfl (FrzP.nil))) rfl ?_
  intro g78
  refine GL.buildS I0.mono (z := [LV.int .i64 0, LV.nils, LV.nils, LV.nils, LV.int .i64 0]) (cs := [_, _, _, _, _]) (n := 5) rfl rfl rfl (EvS.cons (by conv => lhs; whnf) (EvS.cons (by conv => lhs; whnf) (EvS.cons (by conv => lhs; whnf) (EvS.cons (by conv => lhs; whnf) (EvS.nil))))) rfl rfl ?_
  refine GL.buildSlice0 I0.mono (sz := 1) (z := [LV.int .i64 0]) (es := em ni [1, 2]) rfl rfl rfl rfl (by decide) (by decide) (by decide) (FrzP.cons (S := []) (T := []) (Frz.aggc (S := []) (T := []) (Frz.pure rfl) Frz.aggn) rfl (by decide) rfl (FrzP.cons (S := []) (T := []) (Frz.aggc (S := []) (T := []) (Frz.pure rfl) Frz.aggn) rfl (by decide) rfl (FrzP.nil))) rfl ?_
  intro g80
  refine GL.buildSlice0 I0.mono (sz := 1) (z := [LV.int .i64 0]) (es := em ni [14, 30]) rfl rfl rfl rfl (by decide) (by decide) (by decide) (FrzP.cons (S := []) (T := []) (Frz.aggc (S := []) (T := []) (Frz.pure rfl) Frz.aggn) rfl (by decide) rfl (FrzP.cons (S := []) (T := []) (Frz.aggc (S := []) (T := []) (Frz.pure rfl) Frz.aggn) rfl (by decide) rfl (FrzP.nil))) rfl ?_
  intro g81
  refine GL.move I0.mono (by conv => lhs; whnf) ?_
  refine GL.subR I0.mono rfl rfl (by omega) ?_
  refine GL.buildSlice0 I0.mono (sz := 1) (z := [LV.int .i64 0]) (es := em ni [3, 2 - (1 + within n 100)]) rfl rfl rfl rfl (by decide) (by decide) (by decide) (FrzP.cons (S := []) (T := []) (Frz.aggc (S := []) (T := []) (Frz.pure rfl) Frz.aggn) rfl (by decide) rfl (FrzP.cons (S := []) (T := []) (Frz.aggc (S := []) (T := []) (Frz.pure rfl) Frz.aggn) rfl (by decide) rfl (FrzP.nil))) rfl ?_
  intro g84
  refine GL.buildS I0.mono (z := [LV.int .i64 0, LV.nils, LV.nils, LV.nils, LV.int .i64 0]) (cs := [_, _, _, _, _]) (n := 5) rfl rfl rfl (EvS.cons (by conv => lhs; whnf) (EvS.cons (by conv => lhs; whnf) (EvS.cons (by conv => lhs; whnf) (EvS.cons (by conv => lhs; whnf) (EvS.nil))))) rfl rfl ?_
  refine GL.buildSlice0 I0.mono (sz := 1) (z := [LV.int .i64 0]) (es := em ni [1, 2]) rfl rfl rfl rfl (by decide) (by decide) (by decide) (FrzP.cons (S := []) (T := []) (Frz.aggc (S := []) (T := []) (Frz.pure rfl) Frz.aggn) rfl (by decide) rfl (FrzP.cons (S := []) (T := []) (Frz.aggc (S := []) (T := []) (Frz.pure rfl) Frz.aggn) rfl (by decide) rfl (FrzP.nil))) rfl ?_
  intro g86
  refine GL.buildSlice0 I0.mono (sz := 1) (z := [LV.int .i64 0]) (es := em ni [14, 30]) rfl rfl rfl rfl (by decide) (by decide) (by decide) (FrzP.cons (S := []) (T := []) (Frz.aggc (S := []) (T := []) (Frz.pure rfl) Frz.aggn) rfl (by decide) rfl (FrzP.cons (S := []) (T := []) (Frz.aggc (S := []) (T := []) (Frz.pure rfl) Frz.aggn) rfl (by decide) rfl (FrzP.nil))) rfl ?_
  intro g87
  refine GL.buildSlice0 I0.mono (sz := 1) (z := [LV.int .i64 0]) (es := em ni [3, 2]) rfl rfl rfl rfl (by decide) (by decide) (by decide) (FrzP.cons (S := []) (T := []) (Frz.aggc (S := []) (T := []) (Frz.pure rfl) Frz.aggn) rfl (by decide) rfl (FrzP.cons (S := []) (T := []) (Frz.aggc (S := []) (T := []) (Frz.pure rfl) Frz.aggn) rfl (by decide) rfl (FrzP.nil))) rfl ?_
  intro g88
  refine GL.move I0.mono (by conv => lhs; whnf) ?_
  refine GL.subR I0.mono rfl rfl (by omega) ?_
  refine GL.buildS I0.mono (z := [LV.int .i64 0, LV.nils, LV.nils, LV.nils, LV.int .i64 0]) (cs := [_, _, _, _, _]) (n := 5) rfl rfl rfl (EvS.cons (by conv => lhs; whnf) (EvS.cons (by conv => lhs; whnf) (EvS.cons (by conv => lhs; whnf) (EvS.cons (by conv => lhs; whnf) (EvS.nil))))) rfl rfl ?_
  refine GL.buildSlice0 I0.mono (sz := 1) (z := [LV.int .i64 0]) (es := em ni [2, 1]) rfl rfl rfl rfl (by decide) (by decide) (by decide) (FrzP.cons (S := []) (T := []) (Frz.aggc (S := []) (T := []) (Frz.pure rfl) Frz.aggn) rfl (by decide) rfl (FrzP.cons (S := []) (T := []) (Frz.aggc (S := []) (T := []) (Frz.pure rfl) Frz.aggn) rfl (by decide) rfl (FrzP.nil))) rfl ?_
  intro g92
  refine GL.buildSlice0 I0.mono (sz := 1) (z := [LV.int .i64 0]) (es := em ni [30, 33]) rfl rfl rfl rfl (by decide) (by decide) (by decide) (FrzP.cons (S := []) (T := []) (Frz.aggc (S := []) (T := []) (Frz.pure rfl) Frz.aggn) rfl (by decide) rfl (FrzP.cons (S := []) (T := []) (Frz.aggc (S := []) (T := []) (Frz.pure rfl) Frz.aggn) rfl (by decide) rfl (FrzP.nil))) rfl ?_
  intro g93
  refine GL.buildSlice0 I0.mono (sz := 1) (z := [LV.int .i64 0]) (es := em ni [-1, 2]) rfl rfl rfl rfl (by decide) (by decide) (by decide) (FrzP.cons (S := []) (T := []) (Frz.aggc (S := []) (T := []) (Frz.pure rfl) Frz.aggn) rfl (by decide) rfl (FrzP.cons (S := []) (T := []) (Frz.aggc (S := []) (T := []) (Frz.pure rfl) Frz.aggn) rfl (by decide) rfl (FrzP.nil))) rfl ?_
  intro g94
  refine GL.buildS I0.mono (z := [LV.int .i64 0, LV.nils, LV.nils, LV.nils, LV.int .i64 0]) (cs := [_, _, _, _, _]) (n := 5) rfl rfl rfl (EvS.cons (by conv => lhs; whnf) (EvS.cons (by conv => lhs; whnf) (EvS.cons (by conv => lhs; whnf) (EvS.cons (by conv => lhs; whnf) (EvS.nil))))) rfl rfl ?_
  refine GL.buildSlice0 I0.mono (sz := 1) (z := [LV.int .i64 0]) (es := em ni [1, 2]) rfl rfl rfl rfl (by decide) (by decide) (by decide) (FrzP.cons (S := []) (T := []) (Frz.aggc (S := []) (T := []) (Frz.pure rfl) Frz.aggn) rfl (by decide) rfl (FrzP.cons (S := []) (T := []) (Frz.aggc (S := []) (T := []) (Frz.pure rfl) Frz.aggn) rfl (by decide) rfl (FrzP.nil))) rfl ?_
  intro g96
  refine GL.buildSlice0 I0.mono (sz := 1) (z := [LV.int .i64 0]) (es := em ni [14]) rfl rfl rfl rfl (by decide) (by decide) (by decide) (FrzP.cons (S := []) (T := []) (Frz.aggc (S := []) (T := []) (Frz.pure rfl) Frz.aggn) rfl (by decide) rfl (FrzP.nil)) rfl ?_
  intro g97
  refine GL.buildSlice0 I0.mono (sz := 1) (z := [LV.int .i64 0]) (es := em ni [3]) rfl rfl rfl rfl (by decide) (by decide) (by decide) (FrzP.cons (S := []) (T := []) (Frz.aggc (S := []) (T := []) (Frz.pure rfl) Frz.aggn) rfl (by decide) rfl (FrzP.nil)) rfl ?_
  intro g98
  refine GL.buildS I0.mono (z := [LV.int .i64 0, LV.nils, LV.nils, LV.nils, LV.int .i64 0]) (cs := [_, _, _, _, _]) (n := 5) rfl rfl rfl (EvS.cons (by conv => lhs; whnf) (EvS.cons (by conv => lhs; whnf) (EvS.cons (by conv => lhs; whnf) (EvS.cons (by conv => lhs; whnf) (EvS.nil))))) rfl rfl ?_
  refine GL.buildSlice0 I0.mono (sz := 1) (z := [LV.int .i64 0]) (es := em ni [1]) rfl rfl rfl rfl (by decide) (by decide) (by decide) (FrzP.cons (S := []) (T := []) (Frz.aggc (S := []) (T := []) (Frz.pure rfl) Frz.aggn) rfl (by decide) rfl (FrzP.nil)) rfl ?_
  intro g100
  refine GL.buildSlice0 I0.mono (sz := 1) (z := [LV.int .i64 0]) (es := em ni [14, 30]) rfl rfl rfl rfl (by decide) (by decide) (by decide) (FrzP.cons (S := []) (T := []) (Frz.aggc (S := []) (T := []) (Frz.pure rfl) Frz.aggn) rfl (by decide) rfl (FrzP.cons (S := []) (T := []) (Frz.aggc (S := []) (T := []) (Frz.pure rfl) Frz.aggn) rfl (by decide) rfl (FrzP.nil))) rfl ?_
  intro g101
  refine GL.buildSlice0 I0.mono (sz := 1) (z := [LV.int .i64 0]) (es := em ni [3, 2]) rfl rfl rfl rfl (by decide) (by decide) (by decide) (FrzP.cons (S := []) (T := []) (Frz.aggc (S := []) (T := []) (Frz.pure rfl) Frz.aggn) rfl (by decide) rfl (FrzP.cons (S := []) (T := []) (Frz.aggc (S := []) (T := []) (Frz.pure rfl) Frz.aggn) rfl (by decide) rfl (FrzP.nil))) rfl ?_
  intro g102
  refine GL.buildS I0.mono (z := [LV.int .i64 0, LV.nils, LV.nils, LV.nils, LV.int .i64 0]) (cs := [_, _, _, _, _]) (n := 5) rfl rfl rfl (EvS.cons (by conv => lhs; whnf) (EvS.cons (by conv => lhs; whnf) (EvS.cons (by conv => lhs; whnf) (EvS.cons (by conv => lhs; whnf) (EvS.nil))))) rfl rfl ?_
  refine GL.move I0.mono (by conv => lhs; whnf) ?_
  refine GL.buildSlice0 I0.mono (sz := 1) (z := [LV.int .i64 0]) (es := em ni [1]) rfl rfl rfl rfl (by decide) (by decide) (by decide) (FrzP.cons (S := []) (T := []) (Frz.aggc (S := []) (T := []) (Frz.pure rfl) Frz.aggn) rfl (by decide) rfl (FrzP.nil)) rfl ?_
  intro g105
  refine GL.buildSlice0 I0.mono (sz := 1) (z := [LV.int .i64 0]) (es := em ni [14]) rfl rfl rfl rfl (by decide) (by decide) (by decide) (FrzP.cons (S := []) (T := []) (Frz.aggc (S := []) (T := []) (Frz.pure rfl) Frz.aggn) rfl (by decide) rfl (FrzP.nil)) rfl ?_
  intro g106
  refine GL.buildSlice0 I0.mono (sz := 1) (z := [LV.int .i64 0]) (es := em ni [3]) rfl rfl rfl rfl (by decide) (by decide) (by decide) (FrzP.cons (S := []) (T := []) (Frz.aggc (S := []) (T := []) (Frz.pure rfl) Frz.aggn) rfl (by decide) rfl (FrzP.nil)) rfl ?_
  intro g107
  refine GL.buildS I0.mono (z := [LV.int .i64 0, LV.nils, LV.nils, LV.nils, LV.int .i64 0]) (cs := [_, _, _, _, _]) (n := 5) rfl rfl rfl (EvS.cons (by conv => lhs; whnf) (EvS.cons (by conv => lhs; whnf) (EvS.cons (by conv => lhs; whnf) (EvS.cons (by conv => lhs; whnf) (EvS.cons (by conv => lhs; whnf) (EvS.nil)))))) rfl rfl ?_
  refine GL.move I0.mono (by conv => lhs; whnf) ?_
  refine GL.addR I0.mono rfl rfl (by omega) ?_
  refine GL.buildSlice0 I0.mono (sz := 1) (z := [LV.int .i64 0]) (es := em ni [2 + (1 + within n 100)]) rfl rfl rfl rfl (by decide) (by decide) (by decide) (FrzP.cons (S := []) (T := []) (Frz.aggc (S := []) (T := []) (Frz.pure rfl) Frz.aggn) rfl (by decide) rfl (FrzP.nil)) rfl ?_
  intro g111
  refine GL.buildSlice0 I0.mono (sz := 1) (z := [LV.int .i64 0]) (es := em ni [14]) rfl rfl rfl rfl (by decide) (by decide) (by decide) (FrzP.cons (S := []) (T := []) (Frz.aggc (S := []) (T := []) (Frz.pure rfl) Frz.aggn) rfl (by decide) rfl (FrzP.nil)) rfl ?_
  intro g112
  refine GL.buildSlice0 I0.mono (sz := 1) (z := [LV.int .i64 0]) (es := em ni [3]) rfl rfl rfl rfl (by decide) (by decide) (by decide) (FrzP.cons (S := []) (T := []) (Frz.aggc (S := []) (T := []) (Frz.pure rfl) Frz.aggn) rfl (by decide) rfl (FrzP.nil)) rfl ?_
  intro g113
  refine GL.buildS I0.mono (z := [LV.int .i64 0, LV.nils, LV.nils, LV.nils, LV.int .i64 0]) (cs := [_, _, _, _, _]) (n := 5) rfl rfl rfl (EvS.cons (by conv => lhs; whnf) (EvS.cons (by conv => lhs; whnf) (EvS.cons (by conv => lhs; whnf) (EvS.cons (by conv => lhs; whnf) (EvS.nil))))) rfl rfl ?_
  refine GL.buildSliceM I0.mono (sz := 5) (z := [LV.int .i64 0, LV.nils, LV.nils, LV.nils, LV.int .i64 0]) (es := em kc (cases11 (1 + within n 100))) rfl rfl rfl rfl (by decide) (by decide) (by decide) (FrzP.cons (Frz.aggc (by exact Frz.pure rfl) (Frz.aggc (by exact Frz.whole rfl rfl rfl rfl (by exact em_len _ _)) (Frz.aggc (by exact Frz.whole rfl rfl rfl rfl (by exact em_len _ _)) (Frz.aggc (by exact Frz.whole rfl rfl rfl rfl (by exact em_len _ _)) (Frz.aggc (by exact Frz.pure rfl) Frz.aggn))))) rfl (by decide) rfl (FrzP.cons (Frz.aggc (by exact Frz.pure rfl) (Frz.aggc (by exact Frz.whole rfl rfl rfl rfl (by exact em_len _ _)) (Frz.aggc (by exact Frz.whole rfl rfl rfl rfl (by exact em_len _ _)) (Frz.aggc (by exact Frz.whole rfl rfl rfl rfl (by exact em_len _ _)) (Frz.aggc (by exact Frz.pure rfl) Frz.aggn))))) rfl (by decide) rfl (FrzP.cons (Frz.aggc (by exact Frz.pure rfl) (Frz.aggc (by exact Frz.whole rfl rfl rfl rfl (by exact em_len _ _)) (Frz.aggc (by exact Frz.whole rfl rfl rfl rfl (by exact em_len _ _)) (Frz.aggc (by exact Frz.whole rfl rfl rfl rfl (by exact em_len _ _)) (Frz.aggc (by exact Frz.pure rfl) Frz.aggn))))) rfl (by decide) rfl (FrzP.cons (Frz.aggc (by exact Frz.pure rfl) (Frz.aggc (by exact Frz.whole rfl rfl rfl rfl (by exact em_len _ _)) (Frz.aggc (by exact Frz.whole rfl rfl rfl rfl (by exact em_len _ _)) (Frz.aggc (by exact Frz.whole rfl rfl rfl rfl (by exact em_len _ _)) (Frz.aggc (by exact Frz.pure rfl) Frz.aggn))))) rfl (by decide) rfl (FrzP.cons (Frz.aggc (by exact Frz.pure rfl) (Frz.aggc (by exact Frz.whole rfl rfl rfl rfl (by exact em_len _ _)) (Frz.aggc (by exact Frz.whole rfl rfl rfl rfl (by exact em_len _ _)) (Frz.aggc (by exact Frz.whole rfl rfl rfl rfl (by exact em_len _ _)) (Frz.aggc (by exact Frz.pure rfl) Frz.aggn))))) rfl (by decide) rfl (FrzP.cons (Frz.aggc (by exact Frz.pure rfl) (Frz.aggc (by exact Frz.whole rfl rfl rfl rfl (by exact em_len _ _)) (Frz.aggc (by exact Frz.whole rfl rfl rfl rfl (by exact em_len _ _)) (Frz.aggc (by exact Frz.whole rfl rfl rfl rfl (by exact em_len _ _)) (Frz.aggc (by exact Frz.pure rfl) Frz.aggn))))) rfl (by decide) rfl (FrzP.cons (Frz.aggc (by exact Frz.pure rfl) (Frz.aggc (by exact Frz.whole rfl rfl rfl rfl (by exact em_len _ _)) (Frz.aggc (by exact Frz.whole rfl rfl rfl rfl (by exact em_len _ _)) (Frz.aggc (by exact Frz.whole rfl rfl rfl rfl (by exact em_len _ _)) (Frz.aggc (by exact Frz.pure rfl) Frz.aggn))))) rfl (by decide) rfl (FrzP.cons (Frz.aggc (by exact Frz.pure rfl) (Frz.aggc (by exact Frz.whole rfl rfl rfl rfl (by exact em_len _ _)) (Frz.aggc (by exact Frz.whole rfl rfl rfl rfl (by exact em_len _ _)) (Frz.aggc (by exact Frz.whole rfl rfl rfl rfl (by exact em_len _ _)) (Frz.aggc (by exact Frz.pure rfl) Frz.aggn))))) rfl (by decide) rfl (FrzP.nil))))))))) rfl rfl ?_
  intro g115
  refine GL.lenO I0.mono rfl rfl rfl rfl ?_
  refine GL.move I0.mono (by conv => lhs; whnf) ?_
  refine GL.doneF ?_
  refine goOn ?_
  refine Wp.blockI ?_
  refine Wp.loopI I0.mono (α := Nat) (fun k st => (k ≤ 8) ∧ ∃ m0, st = ⟨(updS (updS (updS (updS (updS (fun _ => LV.undef) 0 (.int .i64 (1 + within n 100))) 3 (.ref 192 g3 0 0)) 115 (.own 7360 g115 0 8 none)) 116 (.int .i64 ((8 : Nat) : Int))) 117 (.int .i64 (k : Int))), effM m0 [(192, ⟨g3, false, .var, 4, [[.own 640 g10 0 1 none, .own 832 g13 0 2 none, .nils, .own 1088 g17 0 3 none]]⟩), (640, ⟨g10, true, .slc, 3, em nc [⟨6, 10, 40⟩]⟩), (832, ⟨g13, true, .slc, 4, em ns [⟨3, 0, 40, 2⟩, ⟨-1, 30, 35, 0⟩]⟩), (1088, ⟨g17, true, .slc, 1, em nr [[0, 4, 6], [5, 0, 2], [7, 3, 0]]⟩), (7360, ⟨g115, false, .slc, 5, em kc (cases11 (1 + within n 100))⟩)]⟩) (fun k => 8 - k) 0 ⟨_, (LessS.weak (LessS.upd (LessS.upd (LessS.upd (LessS.upd (LessS.upd (LessS.nil _) rfl) rfl) rfl) rfl) rfl) _), (Nat.zero_le _), _, (congrArg (St.mk _) (effM_eq (Has.cons rfl (Has.cons rfl (Has.cons rfl (Has.cons rfl (Has.cons rfl Has.nil)))))).symm)⟩ ?_
  rintro k _ ⟨hi, m0, rfl⟩
  have hw := within_in (a := n) (n := 100) (by decide)
  refine Wp.seqI ?_
  refine Wp.regI I0.mono ?_
  refine GL.bin I0.mono rfl ?_
  refine GL.doneF ?_
  refine goOn ?_
  refine Wp.seqI ?_
  refine Wp.condI rfl (fun h118 => ?_) (fun h118 => ?_)
  ·replace h118 := of_decide_eq_true h118
   refine Wp.skipI ?_
   refine goOn ?_
   refine Wp.seqI ?_
   refine Wp.blockI ?_
   refine Wp.seqI ?_
   refine Wp.regI I0.mono ?_
   refine GL.indexAddr I0.mono (sz := 5) rfl rfl rfl rfl rfl rfl rfl rfl (by omega) (by omega) (by (conv => lhs; simp only [Nat.zero_add, Int.toNat_natCast])) ?_
   refine GL.loadW I0.mono (n := 5) rfl rfl rfl rfl (by simp) (by exact em_get (by (show _ < 8; omega))) rfl rfl ?_
   refine GL.alloc I0.mono (cs := [LV.int .i64 0, LV.nils, LV.nils, LV.nils, LV.int .i64 0]) rfl rfl ?_
   intro g8
   refine GL.storeW I0.mono (n := 5) rfl rfl rfl rfl rfl rfl rfl (by conv => lhs; whnf) rfl rfl rfl ?_
   refine GL.doneF ?_
   refine goOn ?_
   refine Wp.seqI ?_
   refine Wp.regI I0.mono ?_
   refine GL.loadW I0.mono (n := 4) rfl rfl rfl rfl (by simp) (by rfl) rfl rfl ?_
   refine GL.loadW I0.mono (n := 5) rfl rfl rfl rfl (by simp) (by rfl) rfl rfl ?_
   refine GL.call0 I0.mono rfl (Frz.aggc (by exact (Frz.aggc (by exact Frz.whole rfl rfl rfl rfl (by exact em_len _ _)) (Frz.aggc (by exact Frz.whole rfl rfl rfl rfl (by exact em_len _ _)) (Frz.aggc (by exact Frz.nils) (Frz.aggc (by exact Frz.whole rfl rfl rfl rfl (by exact em_len _ _)) Frz.aggn))))) (Frz.aggc (by exact Frz.pures rfl) (Frz.aggn))) (bad11 (by omega) k (by omega)) rfl rfl (fun _ => rfl) ?_
   refine GL.doneF ?_
   refine goOn ?_
   refine Wp.condF rfl ?_
   refine Wp.skipI ?_
   refine blockX.normal ?_
   refine goOn ?_
   refine Wp.regI I0.mono ?_
   refine GL.addR I0.mono rfl rfl (by omega) ?_
   refine GL.move I0.mono (by conv => lhs; whnf) ?_
   refine GL.doneF ?_
   refine ⟨k + 1, (by dsimp only; omega), _, (LessS.weak (LessS.upd (LessS.upd (LessS.upd (LessS.upd (LessS.upd (LessS.nil _) rfl) rfl) rfl) rfl) rfl) _), (by omega), _, (congrArg (St.mk _) (effM_eq (Has.cons rfl (Has.cons rfl (Has.cons rfl (Has.cons rfl (Has.cons rfl Has.nil)))))).symm)⟩
  ·replace h118 := of_decide_eq_false h118
   refine Wp.exitI ?_
   refine thenX.exit ?_
   refine thenX.exit ?_
   refine blockX.out ?_
   refine goOn ?_
   refine Wp.seqI ?_
   refine Wp.regI I0.mono ?_
   refine GL.loadW I0.mono (n := 4) rfl rfl rfl rfl (by simp) (by rfl) rfl rfl ?_
   refine GL.buildSlice0 I0.mono (sz := 1) (z := [LV.int .i64 0]) (es := em ni [1]) rfl rfl rfl rfl (by decide) (by decide) (by decide) (FrzP.cons (S := []) (T := []) (Frz.aggc (S := []) (T := []) (Frz.pure rfl) Frz.aggn) rfl (by decide) rfl (FrzP.nil)) rfl ?_
   intro g126
   refine GL.buildSlice0 I0.mono (sz := 1) (z := [LV.int .i64 0]) (es := em ni [14]) rfl rfl rfl rfl (by decide) (by decide) (by decide) (FrzP.cons (S := []) (T := []) (Frz.aggc (S := []) (T := []) (Frz.pure rfl) Frz.aggn) rfl (by decide) rfl (FrzP.nil)) rfl ?_
   intro g127
   refine GL.buildSlice0 I0.mono (sz := 1) (z := [LV.int .i64 0]) (es := em ni [3]) rfl rfl rfl rfl (by decide) (by decide) (by decide) (FrzP.cons (S := []) (T := []) (Frz.aggc (S := []) (T := []) (Frz.pure rfl) Frz.aggn) rfl (by decide) rfl (FrzP.nil)) rfl ?_
   intro g128
   refine GL.buildS I0.mono (z := [LV.int .i64 0, LV.nils, LV.nils, LV.nils, LV.int .i64 0]) (cs := [_, _, _, _, _]) (n := 5) rfl rfl rfl (EvS.cons (by conv => lhs; whnf) (EvS.cons (by conv => lhs; whnf) (EvS.cons (by conv => lhs; whnf) (EvS.cons (by conv => lhs; whnf) (EvS.nil))))) rfl rfl ?_
   refine GL.callM0 I0.mono rfl (Frz.aggc (by exact (Frz.aggc (by exact Frz.whole rfl rfl rfl rfl (by exact em_len _ _)) (Frz.aggc (by exact Frz.whole rfl rfl rfl rfl (by exact em_len _ _)) (Frz.aggc (by exact Frz.nils) (Frz.aggc (by exact Frz.whole rfl rfl rfl rfl (by exact em_len _ _)) Frz.aggn))))) (Frz.aggc (by exact (Frz.aggc (by exact Frz.pure rfl) (Frz.aggc (by exact Frz.whole rfl rfl rfl rfl (by exact em_len _ _)) (Frz.aggc (by exact Frz.whole rfl rfl rfl rfl (by exact em_len _ _)) (Frz.aggc (by exact Frz.whole rfl rfl rfl rfl (by exact em_len _ _)) (Frz.aggc (by exact Frz.pure rfl) Frz.aggn)))))) (Frz.aggn))) (r11 ⟨0, [1], [14], [3], 9⟩ true rfl (by simp) (by simp) (by simp) (by decide +kernel) (by decide +kernel)) rfl rfl (fun _ => rfl) ?_
   refine GL.move I0.mono (by conv => lhs; whnf) ?_
   refine GL.guardT rfl ?_
   refine GL.loadW I0.mono (n := 4) rfl rfl rfl rfl (by simp) (by rfl) rfl rfl ?_
   refine GL.guardT rfl ?_
   refine GL.buildS I0.mono (z := [LV.int .i64 0, LV.nils, LV.nils, LV.nils, LV.int .i64 0]) (cs := [_, _, _, _, _]) (n := 5) rfl rfl rfl (EvS.nil) rfl rfl ?_
   refine GL.guardT rfl ?_
   refine GL.call0 I0.mono rfl (Frz.aggc (by exact (Frz.aggc (by exact Frz.whole rfl rfl rfl rfl (by exact em_len _ _)) (Frz.aggc (by exact Frz.whole rfl rfl rfl rfl (by exact em_len _ _)) (Frz.aggc (by exact Frz.nils) (Frz.aggc (by exact Frz.whole rfl rfl rfl rfl (by exact em_len _ _)) Frz.aggn))))) (Frz.aggc (by exact (Frz.aggc (by exact Frz.pure rfl) (Frz.aggc (by exact Frz.nils) (Frz.aggc (by exact Frz.nils) (Frz.aggc (by exact Frz.nils) (Frz.aggc (by exact Frz.pure rfl) Frz.aggn)))))) (Frz.aggn))) (r11 ⟨0, [], [], [], 0⟩ true rfl (by simp) (by simp) (by simp) (by decide +kernel) (by decide +kernel)) rfl rfl (fun _ => rfl) ?_
   refine GL.pick I0.mono rfl (by conv => lhs; whnf) ?_
   refine GL.move I0.mono (by conv => lhs; whnf) ?_
   refine GL.guardT rfl ?_
   refine GL.call0 I0.mono rfl (Frz.aggn) (wakes11_ok) rfl rfl (fun _ => rfl) ?_
   refine GL.pick I0.mono rfl (by conv => lhs; whnf) ?_
   refine GL.assign I0.mono (by conv => lhs; whnf) ?_
   refine GL.doneF ?_
   refine goOn ?_
   refine Wp.retI ?_
   refine RetX.ret ?_
   refine ⟨_, _, _, _, .cons (.tmp rfl) .nil, .frz (.pure rfl), List.nodup_nil, by simp, ?_⟩
   rfl

end Go.Proofs.Ytpepcfombibpeaa
