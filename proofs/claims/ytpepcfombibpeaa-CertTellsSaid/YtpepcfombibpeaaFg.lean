/- The row of stops that a law plays with, walked. -/
import Derived.Test.YtpepcfombibpeaaFf
import Derived.Test.YtpepcfombibpeaaMvC
import Derived.KernelRfl
set_option linter.unusedVariables false
set_option linter.unusedSimpArgs false
namespace Go.Proofs.Ytpepcfombibpeaa
open Go.Proofs Mv

theorem imax1 (x : Int) : 1 ≤ imax x 1 ∧ x ≤ imax x 1 ∧ (imax x 1 = x ∨ imax x 1 = 1) := by
  unfold imax
  split <;> omega

set_option maxRecDepth 100000 in
set_option maxHeartbeats 4000000 in
theorem row_ok (i : Inst) (hs : i.Short) (z : List Int) (hz : Ints z) : CallsV Try.prog 30 [ei i, .sl (em ni z)] (.sl (em ni (rowOf i z))) := by
  refine CallsR.intro (I0.sound _) mix Try.func30 rfl rfl (by simp [Try.f30]) (by kernel_rfl) (nb := 0) ?_
  unfold Try.f30
  refine Wp.seqI ?_
  refine Wp.regI I0.mono ?_
  refine GL.box I0.mono (by conv => lhs; whnf) rfl (n := 4) rfl rfl ?_
  intro g2
  refine GL.assign I0.mono (by conv => lhs; whnf) ?_
  refine GL.doneF ?_
  refine goOn ?_
  refine Wp.seqI ?_
  refine Wp.regI I0.mono ?_
  refine GL.assign I0.mono (by conv => lhs; whnf) ?_
  refine GL.doneF ?_
  refine goOn ?_
  refine Wp.seqI ?_
  refine Wp.regI I0.mono ?_
  refine GL.assign I0.mono (by conv => lhs; whnf) ?_
  refine GL.doneF ?_
  refine goOn ?_
  refine Wp.seqI ?_
  refine Wp.seqI ?_
  refine Wp.regI I0.mono ?_
  refine GL.assign I0.mono (by conv => lhs; whnf) ?_
  refine GL.doneF ?_
  refine goWeak (Weak.nilSlot (j := 6) 700001 1 rfl) ?_
  refine Wp.blockI ?_
  refine Wp.loopI I0.mono (α := Nat × Nat × List Int) (fun ⟨k, g, r⟩ st => (k ≤ z.length ∧ k ≤ 7 ∧ r = rowK i z k) ∧ ∃ m0, st = ⟨(updS (updS (updS (updS (updS (fun _ => LV.undef) 1 (.sl (em ni z))) 2 (.ref 128 g2 0 0)) 5 (.fn 26 [])) 6 (.own 700001 g 0 r.length none)) 7 (.int .i64 (k : Int))), effM m0 [(128, ⟨g2, false, .var, 4, [ic i]⟩), (700001, ⟨g, false, .slc, 1, em ni r⟩)]⟩) (fun ⟨k, g, r⟩ => z.length - k) ⟨0, _, []⟩ ⟨_, (LessS.weak (LessS.upd (LessS.upd (LessS.upd (LessS.upd (LessS.upd (LessS.nil _) rfl) rfl) rfl) rfl) rfl) _), ⟨Nat.zero_le _, Nat.zero_le _, rfl⟩, _, (congrArg (St.mk _) (effM_eq (Has.cons rfl (Has.cons rfl Has.nil))).symm)⟩ ?_
  rintro ⟨k, g, r⟩ _ ⟨⟨hi, h7, hr⟩, m0, rfl⟩
  have hlen := rowK_len i z k
  rw [← hr] at hlen
  have hst := hs.stops
  unfold Short at hst
  have him := imax1 (i.stops.length : Int)
  have hzl := hz.len
  refine Wp.seqI ?_
  refine Wp.seqI ?_
  refine Wp.regI I0.mono ?_
  refine GL.move I0.mono (by conv => lhs; whnf) ?_
  refine GL.move I0.mono (by conv => lhs; whnf) ?_
  refine GL.lenF I0.mono rfl rfl (em_len _ _) ?_
  refine GL.bin I0.mono rfl ?_
  refine GL.move I0.mono (by conv => lhs; whnf) ?_
  refine GL.splitAt 17 rfl (fun h17 => ?_) (fun h17 => ?_)
  ·rw [h17]
   replace h17 := of_decide_eq_true h17
   refine GL.guardT rfl ?_
   refine GL.move I0.mono (by conv => lhs; whnf) ?_
   refine GL.guardT rfl ?_
   refine GL.bin I0.mono rfl ?_
   refine GL.pick I0.mono rfl (by conv => lhs; whnf) ?_
   refine GL.doneF ?_
   refine goOn ?_
   refine Wp.condI rfl (fun h20 => ?_) (fun h20 => ?_)
   ·replace h20 := of_decide_eq_true h20
    have hx := hz.at k
    unfold In at hx
    refine Wp.skipI ?_
    refine goOn ?_
    refine Wp.seqI ?_
    refine Wp.blockI ?_
    refine Wp.seqI ?_
    refine Wp.regD ?_
    refine GL.move I0.mono (by conv => lhs; whnf) ?_
    refine GL.move I0.mono (by conv => lhs; whnf) ?_
    refine GL.move I0.mono (by conv => lhs; whnf) ?_
    refine GL.indexAddrF I0.mono (sz := 1) rfl rfl rfl rfl (by omega) (by (rw [em_len]; omega)) (by intro e he; obtain ⟨a, -, rfl⟩ := List.mem_map.1 he; rfl) (by with_reducible exact Int.toNat_natCast _) ?_
    refine GL.loadF I0.mono rfl rfl (em_get (by omega)) rfl ?_
    refine GL.fieldAddr I0.mono (o := 1) rfl rfl rfl rfl (by conv => lhs; whnf) ?_
    refine GL.load I0.mono rfl rfl rfl rfl (by simp) (by rfl) rfl ?_
    refine GL.lenF I0.mono rfl rfl (em_len _ _) ?_
    refine GL.max I0.mono rfl ?_
    refine GL.call0 I0.mono rfl (Frz.aggc (by exact Frz.pure rfl) (Frz.aggc (by exact Frz.pure rfl) (Frz.aggn))) (within_ok _ _ (by show imax _ 1 < _; omega)) rfl rfl (fun _ => rfl) ?_
    have hw := within_in (a := z.getD k default) (n := imax i.stops.length 1) (by omega)
    refine GL.addR I0.mono rfl rfl (by show _ ≤ 1 + within _ (imax _ 1) ∧ 1 + within _ (imax _ 1) ≤ _; omega) ?_
    refine GL.assign I0.mono (by conv => lhs; whnf) ?_
    refine GL.doneT (by kernel_rfl) ?_
    refine goOn ?_
    refine Wp.seqI ?_
    refine Wp.seqI ?_
    refine Wp.regI I0.mono ?_
    refine GL.move I0.mono (by conv => lhs; whnf) ?_
    refine GL.move I0.mono (by conv => lhs; whnf) ?_
    refine GL.move I0.mono (by conv => lhs; whnf) ?_
    refine GL.indexAddrF I0.mono (sz := 1) rfl rfl rfl rfl (by omega) (by (rw [em_len]; omega)) (by intro e he; obtain ⟨a, -, rfl⟩ := List.mem_map.1 he; rfl) (by with_reducible exact Int.toNat_natCast _) ?_
    refine GL.loadF I0.mono rfl rfl (em_get (by omega)) rfl ?_
    refine GL.quoR I0.mono rfl rfl (by omega) ?_
    refine GL.call0 I0.mono rfl (Frz.aggc (by exact Frz.pure rfl) (Frz.aggc (by exact Frz.pure rfl) (Frz.aggn))) (within_ok _ 40 (by decide)) rfl rfl (fun _ => rfl) ?_
    refine GL.bin I0.mono rfl ?_
    refine GL.doneF ?_
    refine goOn ?_
    refine Wp.condI rfl (fun h41 => ?_) (fun h41 => ?_)
    ·replace h41 := of_decide_eq_true h41
     have hA : rowA i (z.getD k default) = within (z.getD k default) 20 - 2 := if_pos h41
     refine Wp.regI I0.mono ?_
     refine GL.move I0.mono (by conv => lhs; whnf) ?_
     refine GL.move I0.mono (by conv => lhs; whnf) ?_
     refine GL.move I0.mono (by conv => lhs; whnf) ?_
     refine GL.indexAddrF I0.mono (sz := 1) rfl rfl rfl rfl (by omega) (by (rw [em_len]; omega)) (by intro e he; obtain ⟨a, -, rfl⟩ := List.mem_map.1 he; rfl) (by with_reducible exact Int.toNat_natCast _) ?_
     refine GL.loadF I0.mono rfl rfl (em_get (by omega)) rfl ?_
     refine GL.call0 I0.mono rfl (Frz.aggc (by exact Frz.pure rfl) (Frz.aggc (by exact Frz.pure rfl) (Frz.aggn))) (within_ok _ 20 (by decide)) rfl rfl (fun _ => rfl) ?_
     have hw2 := within_in (a := z.getD k default) (n := 20) (by decide)
     refine GL.subR I0.mono rfl rfl (by omega) ?_
     refine GL.assign I0.mono (by conv => lhs; whnf) ?_
     refine GL.doneF ?_
     refine goOn ?_
     refine Wp.seqI ?_
     refine Wp.regI I0.mono ?_
     refine GL.assign I0.mono (by conv => lhs; whnf) ?_
     refine GL.doneF ?_
     refine goOn ?_
     refine Wp.seqI ?_
     refine Wp.seqI ?_
     refine Wp.regI I0.mono ?_
     refine GL.move I0.mono (by conv => lhs; whnf) ?_
     refine GL.lenO I0.mono rfl rfl rfl rfl ?_
     refine GL.move I0.mono (by conv => lhs; whnf) ?_
     refine GL.doneF ?_
     refine goOn ?_
     refine Wp.blockI ?_
     refine Wp.loopI I0.mono (α := Nat) (fun j st => (j ≤ r.length) ∧ ∃ m0, st = ⟨(updS (updS (updS (updS (updS (updS (updS (updS (updS (updS (fun _ => LV.undef) 1 (.sl (em ni z))) 2 (.ref 128 g2 0 0)) 5 (.fn 26 [])) 6 (.own 700001 g 0 r.length none)) 7 (.int .i64 (k : Int))) 8 (.int .i64 (rowA i (z.getD k default)))) 9 (.bool (Mv.seen (r.take j) (rowA i (z.getD k default))))) 49 (.own 700001 g 0 r.length none)) 50 (.int .i64 (r.length : Int))) 51 (.int .i64 (j : Int))), effM m0 [(128, ⟨g2, false, .var, 4, [ic i]⟩), (700001, ⟨g, false, .slc, 1, em ni r⟩)]⟩) (fun j => r.length - j) 0 ⟨_, (LessS.weak (LessS.upd (LessS.upd (LessS.upd (LessS.upd (LessS.upd (LessS.upd (LessS.upd (LessS.upd (LessS.upd (LessS.upd (LessS.nil _) rfl) rfl) rfl) rfl) rfl) (congrArg (LV.int .i64) hA.symm)) rfl) rfl) rfl) rfl) _), (Nat.zero_le _), _, (congrArg (St.mk _) (effM_eq (Has.cons rfl (Has.cons rfl Has.nil))).symm)⟩ ?_
     rintro j _ ⟨hj, m0, rfl⟩
     refine Wp.seqI ?_
     refine Wp.regI I0.mono ?_
     refine GL.bin I0.mono rfl ?_
     refine GL.doneF ?_
     refine goOn ?_
     refine Wp.seqI ?_
     refine Wp.condI rfl (fun h52 => ?_) (fun h52 => ?_)
     ·replace h52 := of_decide_eq_true h52
      refine Wp.skipI ?_
      refine goOn ?_
      refine Wp.seqI ?_
      refine Wp.blockI ?_
      refine Wp.seqI ?_
      refine Wp.regI I0.mono ?_
      refine GL.indexAddr I0.mono (sz := 1) rfl rfl rfl rfl rfl rfl rfl rfl (by omega) (by omega) (by (conv => lhs; simp only [Nat.zero_add, Int.toNat_natCast])) ?_
      refine GL.load I0.mono rfl rfl rfl rfl (by simp) (by exact em_get (by omega)) rfl ?_
      refine GL.assign I0.mono (by conv => lhs; whnf) ?_
      refine GL.doneF ?_
      refine goOn ?_
      refine Wp.regI I0.mono ?_
      refine GL.move I0.mono (by conv => lhs; whnf) ?_
      refine GL.move I0.mono (by conv => lhs; whnf) ?_
      refine GL.splitAt 56 rfl (fun h56 => ?_) (fun h56 => ?_)
      ·rw [h56]
       skip
       refine GL.guardF rfl ?_
       refine GL.guardF rfl ?_
       refine GL.guardF rfl ?_
       refine GL.pick I0.mono rfl (by conv => lhs; whnf) ?_
       refine GL.assign I0.mono (by conv => lhs; whnf) ?_
       refine GL.doneF ?_
       refine blockX.normal ?_
       refine goOn ?_
       refine Wp.regI I0.mono ?_
       refine GL.addR I0.mono rfl rfl (by omega) ?_
       refine GL.move I0.mono (by conv => lhs; whnf) ?_
       refine GL.doneF ?_
       refine ⟨j + 1, (by dsimp only; omega), _, (LessS.weak (LessS.upd (LessS.upd (LessS.upd (LessS.upd (LessS.upd (LessS.upd (LessS.upd (LessS.upd (LessS.upd (LessS.upd (LessS.nil _) rfl) rfl) rfl) rfl) rfl) rfl) (by show LV.bool _ = LV.bool _; rw [seen_take _ _ (by omega), h56]; simp)) rfl) rfl) rfl) _), (by omega), _, (congrArg (St.mk _) (effM_eq (Has.cons rfl (Has.cons rfl Has.nil))).symm)⟩
      ·rw [h56]
       skip
       refine GL.guardT rfl ?_
       refine GL.move I0.mono (by conv => lhs; whnf) ?_
       refine GL.guardT rfl ?_
       refine GL.move I0.mono (by conv => lhs; whnf) ?_
       refine GL.guardT rfl ?_
       refine GL.bin I0.mono rfl ?_
       refine GL.pick I0.mono rfl (by conv => lhs; whnf) ?_
       refine GL.assign I0.mono (by conv => lhs; whnf) ?_
       refine GL.doneF ?_
       refine blockX.normal ?_
       refine goOn ?_
       refine Wp.regI I0.mono ?_
       refine GL.addR I0.mono rfl rfl (by omega) ?_
       refine GL.move I0.mono (by conv => lhs; whnf) ?_
       refine GL.doneF ?_
       refine ⟨j + 1, (by dsimp only; omega), _, (LessS.weak (LessS.upd (LessS.upd (LessS.upd (LessS.upd (LessS.upd (LessS.upd (LessS.upd (LessS.upd (LessS.upd (LessS.upd (LessS.nil _) rfl) rfl) rfl) rfl) rfl) rfl) (by show LV.bool _ = LV.bool _; rw [seen_take _ _ (by omega), h56]; simp)) rfl) rfl) rfl) _), (by omega), _, (congrArg (St.mk _) (effM_eq (Has.cons rfl (Has.cons rfl Has.nil))).symm)⟩
     ·replace h52 := of_decide_eq_false h52
      obtain rfl : j = r.length := by omega
      have ht : r.take r.length = r := List.take_length
      refine Wp.exitI ?_
      refine thenX.exit ?_
      refine thenX.exit ?_
      refine blockX.out ?_
      refine goOn ?_
      refine Wp.seqI ?_
      refine Wp.regI I0.mono ?_
      refine GL.move I0.mono (by conv => lhs; whnf) ?_
      refine GL.un I0.mono rfl ?_
      refine GL.move I0.mono (by conv => lhs; whnf) ?_
      refine GL.splitAt 64 rfl (fun h64 => ?_) (fun h64 => ?_)
      ·rw [h64]
       skip
       refine GL.guardF rfl ?_
       refine GL.guardF rfl ?_
       refine GL.guardF rfl ?_
       refine GL.guardF rfl ?_
       refine GL.guardF rfl ?_
       refine GL.guardF rfl ?_
       refine GL.guardF rfl ?_
       refine GL.guardF rfl ?_
       refine GL.pick I0.mono rfl (by conv => lhs; whnf) ?_
       refine GL.doneF ?_
       refine goOn ?_
       refine Wp.condT rfl ?_
       refine Wp.seqI ?_
       refine Wp.regI I0.mono ?_
       refine GL.move I0.mono (by conv => lhs; whnf) ?_
       refine GL.move I0.mono (by conv => lhs; whnf) ?_
       refine GL.buildSlice0 I0.mono (sz := 1) (z := [LV.int .i64 0]) rfl rfl rfl rfl (by decide) (by decide) (by decide) (FrzP.cons (S := []) (T := []) (Frz.aggc (S := []) (T := []) (Frz.pure rfl) Frz.aggn) rfl (by decide) rfl (FrzP.nil)) (by conv => lhs; simp only [fillE, List.replicate, List.map, pureC, List.set_cons_zero, List.set_cons_succ]) ?_
       intro g76
       refine GL.append1 I0.mono (f := ni) (v := rowA i (z.getD k default)) (sz := 1) (z := [.int .i64 0]) rfl rfl rfl rfl rfl (by decide) (Nat.le_of_ble_eq_true rfl) rfl rfl rfl rfl rfl rfl rfl rfl rfl rfl rfl rfl rfl rfl rfl rfl (by omega) ?_
       refine GL.assign I0.mono (by conv => lhs; whnf) ?_
       refine GL.doneF ?_
       refine goOn ?_
       refine Wp.seqI ?_
       refine Wp.regI I0.mono ?_
       refine GL.loadW I0.mono (n := 4) rfl rfl rfl rfl (by simp) (by rfl) rfl rfl ?_
       refine GL.move I0.mono (by conv => lhs; whnf) ?_
       refine GL.call0 I0.mono rfl (Frz.aggc (by exact Frz.pures rfl) (Frz.aggc (by exact Frz.pure rfl) (Frz.aggn))) (rmate_ok i hs _) rfl rfl (fun _ => rfl) ?_
       refine GL.assign I0.mono (by conv => lhs; whnf) ?_
       refine GL.doneF ?_
       refine goOn ?_
       refine Wp.seqI ?_
       refine Wp.regI I0.mono ?_
       refine GL.move I0.mono (by conv => lhs; whnf) ?_
       refine GL.bin I0.mono rfl ?_
       refine GL.move I0.mono (by conv => lhs; whnf) ?_
       refine GL.splitAt 83 rfl (fun h83 => ?_) (fun h83 => ?_)
       ·rw [h83]
        replace h83 := of_decide_eq_true h83
        refine GL.guardT rfl ?_
        refine GL.move I0.mono (by conv => lhs; whnf) ?_
        refine GL.guardT rfl ?_
        refine GL.move I0.mono (by conv => lhs; whnf) ?_
        refine GL.guardT rfl ?_
        refine GL.move I0.mono (by conv => lhs; whnf) ?_
        refine GL.guardT rfl ?_
        refine GL.indexAddrF I0.mono (sz := 1) rfl rfl rfl rfl (by omega) (by (rw [em_len]; omega)) (by intro e he; obtain ⟨a, -, rfl⟩ := List.mem_map.1 he; rfl) (by with_reducible exact Int.toNat_natCast _) ?_
        refine GL.guardT rfl ?_
        refine GL.loadF I0.mono rfl rfl (em_get (by omega)) rfl ?_
        refine GL.guardT rfl ?_
        refine GL.quoR I0.mono rfl rfl (by omega) ?_
        refine GL.guardT rfl ?_
        refine GL.call0 I0.mono rfl (Frz.aggc (by exact Frz.pure rfl) (Frz.aggc (by exact Frz.pure rfl) (Frz.aggn))) (within_ok _ 8 (by decide)) rfl rfl (fun _ => rfl) ?_
        refine GL.guardT rfl ?_
        refine GL.bin I0.mono rfl ?_
        refine GL.pick I0.mono rfl (by conv => lhs; whnf) ?_
        refine GL.move I0.mono (by conv => lhs; whnf) ?_
        refine GL.splitAt 93 rfl (fun h93 => ?_) (fun h93 => ?_)
        ·rw [h93]
         replace h93 := of_decide_eq_true h93
         refine GL.guardT rfl ?_
         refine GL.loadW I0.mono (n := 4) rfl rfl rfl rfl (by simp) (by rfl) rfl rfl ?_
         refine GL.guardT rfl ?_
         refine GL.move I0.mono (by conv => lhs; whnf) ?_
         refine GL.guardT rfl ?_
         refine GL.call0 I0.mono rfl (Frz.aggc (by exact Frz.pures rfl) (Frz.aggc (by exact Frz.pure rfl) (Frz.aggn))) (rfirst_ok i hs _) rfl rfl (fun _ => rfl) ?_
         refine GL.pick I0.mono rfl (by conv => lhs; whnf) ?_
         refine GL.doneF ?_
         refine goOn ?_
         refine Wp.condI rfl (fun h97 => ?_) (fun h97 => ?_)
         ·skip
          refine Wp.regI I0.mono ?_
          refine GL.move I0.mono (by conv => lhs; whnf) ?_
          refine GL.move I0.mono (by conv => lhs; whnf) ?_
          refine GL.buildSlice0 I0.mono (sz := 1) (z := [LV.int .i64 0]) rfl rfl rfl rfl (by decide) (by decide) (by decide) (FrzP.cons (S := []) (T := []) (Frz.aggc (S := []) (T := []) (Frz.pure rfl) Frz.aggn) rfl (by decide) rfl (FrzP.nil)) (by conv => lhs; simp only [fillE, List.replicate, List.map, pureC, List.set_cons_zero, List.set_cons_succ]) ?_
          intro g100
          refine GL.append1 I0.mono (f := ni) (v := mate i.pairs (rowA i (z.getD k default))) (sz := 1) (z := [.int .i64 0]) rfl rfl rfl rfl rfl (by decide) (Nat.le_of_ble_eq_true rfl) rfl rfl rfl rfl rfl rfl rfl (by simp) rfl rfl rfl rfl rfl rfl rfl rfl (by omega) ?_
          refine GL.assign I0.mono (by conv => lhs; whnf) ?_
          refine GL.doneF ?_
          refine blockX.normal ?_
          refine goOn ?_
          refine Wp.regI I0.mono ?_
          refine GL.move I0.mono (by conv => lhs; whnf) ?_
          refine GL.addR I0.mono rfl rfl (by omega) ?_
          refine GL.assign I0.mono (by conv => lhs; whnf) ?_
          refine GL.doneF ?_
          first
          | refine ⟨⟨k + 1, _, r⟩, (by dsimp only; omega), _, (LessS.weak (LessS.upd (LessS.upd (LessS.upd (LessS.upd (LessS.upd (LessS.nil _) rfl) rfl) rfl) rfl) rfl) _), ⟨by omega, by omega, by rw [rowK, ← hr, rowStep, if_pos (by first | (simp_all; done) | (simp_all; intro h; omega))]⟩, _, (congrArg (St.mk _) (effM_eq (Has.cons rfl (Has.cons rfl Has.nil))).symm)⟩
          | refine ⟨⟨k + 1, _, r ++ [(rowA i (z.getD k default))]⟩, (by dsimp only; omega), _, (LessS.weak (LessS.upd (LessS.upd (LessS.upd (LessS.upd (LessS.upd (LessS.nil _) rfl) rfl) rfl) (by rw [List.length_append]; rfl)) rfl) _), ⟨by omega, by omega, by rw [rowK, ← hr, rowStep, if_neg (by first | (simp_all; done) | (simp_all; intro h; omega)), if_neg (by first | (simp_all; done) | (simp_all; intro h; omega))]⟩, _, (congrArg (St.mk _) (effM_eq (Has.cons rfl (Has.cons rfl Has.nil))).symm)⟩
          | refine ⟨⟨k + 1, _, r ++ [(rowA i (z.getD k default))] ++ [(mate i.pairs (rowA i (z.getD k default)))]⟩, (by dsimp only; omega), _, (LessS.weak (LessS.upd (LessS.upd (LessS.upd (LessS.upd (LessS.upd (LessS.nil _) rfl) rfl) rfl) (by rw [List.length_append, List.length_append]; rfl)) rfl) _), ⟨by omega, by omega, by rw [rowK, ← hr, rowStep, if_neg (by (simp_all; done)), if_pos (by (simp_all; done))]⟩, _, (congrArg (St.mk _) (effM_eq (Has.cons rfl (Has.cons rfl Has.nil))).symm)⟩
         ·skip
          refine Wp.skipI ?_
          refine blockX.normal ?_
          refine goOn ?_
          refine Wp.regI I0.mono ?_
          refine GL.move I0.mono (by conv => lhs; whnf) ?_
          refine GL.addR I0.mono rfl rfl (by omega) ?_
          refine GL.assign I0.mono (by conv => lhs; whnf) ?_
          refine GL.doneF ?_
          first
          | refine ⟨⟨k + 1, _, r⟩, (by dsimp only; omega), _, (LessS.weak (LessS.upd (LessS.upd (LessS.upd (LessS.upd (LessS.upd (LessS.nil _) rfl) rfl) rfl) rfl) rfl) _), ⟨by omega, by omega, by rw [rowK, ← hr, rowStep, if_pos (by first | (simp_all; done) | (simp_all; intro h; omega))]⟩, _, (congrArg (St.mk _) (effM_eq (Has.cons rfl (Has.cons rfl Has.nil))).symm)⟩
          | refine ⟨⟨k + 1, _, r ++ [(rowA i (z.getD k default))]⟩, (by dsimp only; omega), _, (LessS.weak (LessS.upd (LessS.upd (LessS.upd (LessS.upd (LessS.upd (LessS.nil _) rfl) rfl) rfl) (by rw [List.length_append]; rfl)) rfl) _), ⟨by omega, by omega, by rw [rowK, ← hr, rowStep, if_neg (by (simp_all; done)), if_neg (by (simp_all; done))]⟩, _, (congrArg (St.mk _) (effM_eq (Has.cons rfl (Has.cons rfl Has.nil))).symm)⟩
          | refine ⟨⟨k + 1, _, r ++ [(rowA i (z.getD k default))] ++ [(mate i.pairs (rowA i (z.getD k default)))]⟩, (by dsimp only; omega), _, (LessS.weak (LessS.upd (LessS.upd (LessS.upd (LessS.upd (LessS.upd (LessS.nil _) rfl) rfl) rfl) (by rw [List.length_append, List.length_append]; rfl)) rfl) _), ⟨by omega, by omega, by rw [rowK, ← hr, rowStep, if_neg (by first | (simp_all; done) | (simp_all; intro h; omega)), if_pos (by first | (simp_all; done) | (simp_all; intro h; omega))]⟩, _, (congrArg (St.mk _) (effM_eq (Has.cons rfl (Has.cons rfl Has.nil))).symm)⟩
        ·rw [h93]
         replace h93 := of_decide_eq_false h93
         refine GL.guardF rfl ?_
         refine GL.guardF rfl ?_
         refine GL.guardF rfl ?_
         refine GL.pick I0.mono rfl (by conv => lhs; whnf) ?_
         refine GL.doneF ?_
         refine goOn ?_
         refine Wp.condF rfl ?_
         refine Wp.skipI ?_
         refine blockX.normal ?_
         refine goOn ?_
         refine Wp.regI I0.mono ?_
         refine GL.move I0.mono (by conv => lhs; whnf) ?_
         refine GL.addR I0.mono rfl rfl (by omega) ?_
         refine GL.assign I0.mono (by conv => lhs; whnf) ?_
         refine GL.doneF ?_
         first
         | refine ⟨⟨k + 1, _, r⟩, (by dsimp only; omega), _, (LessS.weak (LessS.upd (LessS.upd (LessS.upd (LessS.upd (LessS.upd (LessS.nil _) rfl) rfl) rfl) rfl) rfl) _), ⟨by omega, by omega, by rw [rowK, ← hr, rowStep, if_pos (by first | (simp_all; done) | (simp_all; intro h; omega))]⟩, _, (congrArg (St.mk _) (effM_eq (Has.cons rfl (Has.cons rfl Has.nil))).symm)⟩
         | refine ⟨⟨k + 1, _, r ++ [(rowA i (z.getD k default))]⟩, (by dsimp only; omega), _, (LessS.weak (LessS.upd (LessS.upd (LessS.upd (LessS.upd (LessS.upd (LessS.nil _) rfl) rfl) rfl) (by rw [List.length_append]; rfl)) rfl) _), ⟨by omega, by omega, by rw [rowK, ← hr, rowStep, if_neg (by (simp_all; done)), if_neg (by (simp_all; intro h; omega))]⟩, _, (congrArg (St.mk _) (effM_eq (Has.cons rfl (Has.cons rfl Has.nil))).symm)⟩
         | refine ⟨⟨k + 1, _, r ++ [(rowA i (z.getD k default))] ++ [(mate i.pairs (rowA i (z.getD k default)))]⟩, (by dsimp only; omega), _, (LessS.weak (LessS.upd (LessS.upd (LessS.upd (LessS.upd (LessS.upd (LessS.nil _) rfl) rfl) rfl) (by rw [List.length_append, List.length_append]; rfl)) rfl) _), ⟨by omega, by omega, by rw [rowK, ← hr, rowStep, if_neg (by first | (simp_all; done) | (simp_all; intro h; omega)), if_pos (by first | (simp_all; done) | (simp_all; intro h; omega))]⟩, _, (congrArg (St.mk _) (effM_eq (Has.cons rfl (Has.cons rfl Has.nil))).symm)⟩
       ·rw [h83]
        replace h83 := of_decide_eq_false h83
        refine GL.guardF rfl ?_
        refine GL.guardF rfl ?_
        refine GL.guardF rfl ?_
        refine GL.guardF rfl ?_
        refine GL.guardF rfl ?_
        refine GL.guardF rfl ?_
        refine GL.guardF rfl ?_
        refine GL.guardF rfl ?_
        refine GL.pick I0.mono rfl (by conv => lhs; whnf) ?_
        refine GL.move I0.mono (by conv => lhs; whnf) ?_
        refine GL.guardF rfl ?_
        refine GL.guardF rfl ?_
        refine GL.guardF rfl ?_
        refine GL.pick I0.mono rfl (by conv => lhs; whnf) ?_
        refine GL.doneF ?_
        refine goOn ?_
        refine Wp.condF rfl ?_
        refine Wp.skipI ?_
        refine blockX.normal ?_
        refine goOn ?_
        refine Wp.regI I0.mono ?_
        refine GL.move I0.mono (by conv => lhs; whnf) ?_
        refine GL.addR I0.mono rfl rfl (by omega) ?_
        refine GL.assign I0.mono (by conv => lhs; whnf) ?_
        refine GL.doneF ?_
        first
        | refine ⟨⟨k + 1, _, r⟩, (by dsimp only; omega), _, (LessS.weak (LessS.upd (LessS.upd (LessS.upd (LessS.upd (LessS.upd (LessS.nil _) rfl) rfl) rfl) rfl) rfl) _), ⟨by omega, by omega, by rw [rowK, ← hr, rowStep, if_pos (by first | (simp_all; done) | (simp_all; intro h; omega))]⟩, _, (congrArg (St.mk _) (effM_eq (Has.cons rfl (Has.cons rfl Has.nil))).symm)⟩
        | refine ⟨⟨k + 1, _, r ++ [(rowA i (z.getD k default))]⟩, (by dsimp only; omega), _, (LessS.weak (LessS.upd (LessS.upd (LessS.upd (LessS.upd (LessS.upd (LessS.nil _) rfl) rfl) rfl) (by rw [List.length_append]; rfl)) rfl) _), ⟨by omega, by omega, by rw [rowK, ← hr, rowStep, if_neg (by (simp_all; done)), if_neg (by (simp_all; intro h; omega))]⟩, _, (congrArg (St.mk _) (effM_eq (Has.cons rfl (Has.cons rfl Has.nil))).symm)⟩
        | refine ⟨⟨k + 1, _, r ++ [(rowA i (z.getD k default))] ++ [(mate i.pairs (rowA i (z.getD k default)))]⟩, (by dsimp only; omega), _, (LessS.weak (LessS.upd (LessS.upd (LessS.upd (LessS.upd (LessS.upd (LessS.nil _) rfl) rfl) rfl) (by rw [List.length_append, List.length_append]; rfl)) rfl) _), ⟨by omega, by omega, by rw [rowK, ← hr, rowStep, if_neg (by first | (simp_all; done) | (simp_all; intro h; omega)), if_pos (by first | (simp_all; done) | (simp_all; intro h; omega))]⟩, _, (congrArg (St.mk _) (effM_eq (Has.cons rfl (Has.cons rfl Has.nil))).symm)⟩
      ·rw [h64]
       skip
       refine GL.guardT rfl ?_
       refine GL.move I0.mono (by conv => lhs; whnf) ?_
       refine GL.guardT rfl ?_
       refine GL.move I0.mono (by conv => lhs; whnf) ?_
       refine GL.guardT rfl ?_
       refine GL.move I0.mono (by conv => lhs; whnf) ?_
       refine GL.guardT rfl ?_
       refine GL.indexAddrF I0.mono (sz := 1) rfl rfl rfl rfl (by omega) (by (rw [em_len]; omega)) (by intro e he; obtain ⟨a, -, rfl⟩ := List.mem_map.1 he; rfl) (by with_reducible exact Int.toNat_natCast _) ?_
       refine GL.guardT rfl ?_
       refine GL.loadF I0.mono rfl rfl (em_get (by omega)) rfl ?_
       refine GL.guardT rfl ?_
       refine GL.quoR I0.mono rfl rfl (by omega) ?_
       refine GL.guardT rfl ?_
       refine GL.call0 I0.mono rfl (Frz.aggc (by exact Frz.pure rfl) (Frz.aggc (by exact Frz.pure rfl) (Frz.aggn))) (within_ok _ 30 (by decide)) rfl rfl (fun _ => rfl) ?_
       refine GL.guardT rfl ?_
       refine GL.bin I0.mono rfl ?_
       refine GL.pick I0.mono rfl (by conv => lhs; whnf) ?_
       refine GL.doneF ?_
       refine goOn ?_
       refine Wp.condI rfl (fun h73 => ?_) (fun h73 => ?_)
       ·replace h73 := of_decide_eq_true h73
        refine Wp.seqI ?_
        refine Wp.regI I0.mono ?_
        refine GL.move I0.mono (by conv => lhs; whnf) ?_
        refine GL.move I0.mono (by conv => lhs; whnf) ?_
        refine GL.buildSlice0 I0.mono (sz := 1) (z := [LV.int .i64 0]) rfl rfl rfl rfl (by decide) (by decide) (by decide) (FrzP.cons (S := []) (T := []) (Frz.aggc (S := []) (T := []) (Frz.pure rfl) Frz.aggn) rfl (by decide) rfl (FrzP.nil)) (by conv => lhs; simp only [fillE, List.replicate, List.map, pureC, List.set_cons_zero, List.set_cons_succ]) ?_
        intro g76
        refine GL.append1 I0.mono (f := ni) (v := rowA i (z.getD k default)) (sz := 1) (z := [.int .i64 0]) rfl rfl rfl rfl rfl (by decide) (Nat.le_of_ble_eq_true rfl) rfl rfl rfl rfl rfl rfl rfl rfl rfl rfl rfl rfl rfl rfl rfl rfl (by omega) ?_
        refine GL.assign I0.mono (by conv => lhs; whnf) ?_
        refine GL.doneF ?_
        refine goOn ?_
        refine Wp.seqI ?_
        refine Wp.regI I0.mono ?_
        refine GL.loadW I0.mono (n := 4) rfl rfl rfl rfl (by simp) (by rfl) rfl rfl ?_
        refine GL.move I0.mono (by conv => lhs; whnf) ?_
        refine GL.call0 I0.mono rfl (Frz.aggc (by exact Frz.pures rfl) (Frz.aggc (by exact Frz.pure rfl) (Frz.aggn))) (rmate_ok i hs _) rfl rfl (fun _ => rfl) ?_
        refine GL.assign I0.mono (by conv => lhs; whnf) ?_
        refine GL.doneF ?_
        refine goOn ?_
        refine Wp.seqI ?_
        refine Wp.regI I0.mono ?_
        refine GL.move I0.mono (by conv => lhs; whnf) ?_
        refine GL.bin I0.mono rfl ?_
        refine GL.move I0.mono (by conv => lhs; whnf) ?_
        refine GL.splitAt 83 rfl (fun h83 => ?_) (fun h83 => ?_)
        ·rw [h83]
         replace h83 := of_decide_eq_true h83
         refine GL.guardT rfl ?_
         refine GL.move I0.mono (by conv => lhs; whnf) ?_
         refine GL.guardT rfl ?_
         refine GL.move I0.mono (by conv => lhs; whnf) ?_
         refine GL.guardT rfl ?_
         refine GL.move I0.mono (by conv => lhs; whnf) ?_
         refine GL.guardT rfl ?_
         refine GL.indexAddrF I0.mono (sz := 1) rfl rfl rfl rfl (by omega) (by (rw [em_len]; omega)) (by intro e he; obtain ⟨a, -, rfl⟩ := List.mem_map.1 he; rfl) (by with_reducible exact Int.toNat_natCast _) ?_
         refine GL.guardT rfl ?_
         refine GL.loadF I0.mono rfl rfl (em_get (by omega)) rfl ?_
         refine GL.guardT rfl ?_
         refine GL.quoR I0.mono rfl rfl (by omega) ?_
         refine GL.guardT rfl ?_
         refine GL.call0 I0.mono rfl (Frz.aggc (by exact Frz.pure rfl) (Frz.aggc (by exact Frz.pure rfl) (Frz.aggn))) (within_ok _ 8 (by decide)) rfl rfl (fun _ => rfl) ?_
         refine GL.guardT rfl ?_
         refine GL.bin I0.mono rfl ?_
         refine GL.pick I0.mono rfl (by conv => lhs; whnf) ?_
         refine GL.move I0.mono (by conv => lhs; whnf) ?_
         refine GL.splitAt 93 rfl (fun h93 => ?_) (fun h93 => ?_)
         ·rw [h93]
          replace h93 := of_decide_eq_true h93
          refine GL.guardT rfl ?_
          refine GL.loadW I0.mono (n := 4) rfl rfl rfl rfl (by simp) (by rfl) rfl rfl ?_
          refine GL.guardT rfl ?_
          refine GL.move I0.mono (by conv => lhs; whnf) ?_
          refine GL.guardT rfl ?_
          refine GL.call0 I0.mono rfl (Frz.aggc (by exact Frz.pures rfl) (Frz.aggc (by exact Frz.pure rfl) (Frz.aggn))) (rfirst_ok i hs _) rfl rfl (fun _ => rfl) ?_
          refine GL.pick I0.mono rfl (by conv => lhs; whnf) ?_
          refine GL.doneF ?_
          refine goOn ?_
          refine Wp.condI rfl (fun h97 => ?_) (fun h97 => ?_)
          ·skip
           refine Wp.regI I0.mono ?_
           refine GL.move I0.mono (by conv => lhs; whnf) ?_
           refine GL.move I0.mono (by conv => lhs; whnf) ?_
           refine GL.buildSlice0 I0.mono (sz := 1) (z := [LV.int .i64 0]) rfl rfl rfl rfl (by decide) (by decide) (by decide) (FrzP.cons (S := []) (T := []) (Frz.aggc (S := []) (T := []) (Frz.pure rfl) Frz.aggn) rfl (by decide) rfl (FrzP.nil)) (by conv => lhs; simp only [fillE, List.replicate, List.map, pureC, List.set_cons_zero, List.set_cons_succ]) ?_
           intro g100
           refine GL.append1 I0.mono (f := ni) (v := mate i.pairs (rowA i (z.getD k default))) (sz := 1) (z := [.int .i64 0]) rfl rfl rfl rfl rfl (by decide) (Nat.le_of_ble_eq_true rfl) rfl rfl rfl rfl rfl rfl rfl (by simp) rfl rfl rfl rfl rfl rfl rfl rfl (by omega) ?_
           refine GL.assign I0.mono (by conv => lhs; whnf) ?_
           refine GL.doneF ?_
           refine blockX.normal ?_
           refine goOn ?_
           refine Wp.regI I0.mono ?_
           refine GL.move I0.mono (by conv => lhs; whnf) ?_
           refine GL.addR I0.mono rfl rfl (by omega) ?_
           refine GL.assign I0.mono (by conv => lhs; whnf) ?_
           refine GL.doneF ?_
           first
           | refine ⟨⟨k + 1, _, r⟩, (by dsimp only; omega), _, (LessS.weak (LessS.upd (LessS.upd (LessS.upd (LessS.upd (LessS.upd (LessS.nil _) rfl) rfl) rfl) rfl) rfl) _), ⟨by omega, by omega, by rw [rowK, ← hr, rowStep, if_pos (by first | (simp_all; done) | (simp_all; intro h; omega))]⟩, _, (congrArg (St.mk _) (effM_eq (Has.cons rfl (Has.cons rfl Has.nil))).symm)⟩
           | refine ⟨⟨k + 1, _, r ++ [(rowA i (z.getD k default))]⟩, (by dsimp only; omega), _, (LessS.weak (LessS.upd (LessS.upd (LessS.upd (LessS.upd (LessS.upd (LessS.nil _) rfl) rfl) rfl) (by rw [List.length_append]; rfl)) rfl) _), ⟨by omega, by omega, by rw [rowK, ← hr, rowStep, if_neg (by first | (simp_all; done) | (simp_all; intro h; omega)), if_neg (by first | (simp_all; done) | (simp_all; intro h; omega))]⟩, _, (congrArg (St.mk _) (effM_eq (Has.cons rfl (Has.cons rfl Has.nil))).symm)⟩
           | refine ⟨⟨k + 1, _, r ++ [(rowA i (z.getD k default))] ++ [(mate i.pairs (rowA i (z.getD k default)))]⟩, (by dsimp only; omega), _, (LessS.weak (LessS.upd (LessS.upd (LessS.upd (LessS.upd (LessS.upd (LessS.nil _) rfl) rfl) rfl) (by rw [List.length_append, List.length_append]; rfl)) rfl) _), ⟨by omega, by omega, by rw [rowK, ← hr, rowStep, if_neg (by (simp_all; done)), if_pos (by (simp_all; done))]⟩, _, (congrArg (St.mk _) (effM_eq (Has.cons rfl (Has.cons rfl Has.nil))).symm)⟩
          ·skip
           refine Wp.skipI ?_
           refine blockX.normal ?_
           refine goOn ?_
           refine Wp.regI I0.mono ?_
           refine GL.move I0.mono (by conv => lhs; whnf) ?_
           refine GL.addR I0.mono rfl rfl (by omega) ?_
           refine GL.assign I0.mono (by conv => lhs; whnf) ?_
           refine GL.doneF ?_
           first
           | refine ⟨⟨k + 1, _, r⟩, (by dsimp only; omega), _, (LessS.weak (LessS.upd (LessS.upd (LessS.upd (LessS.upd (LessS.upd (LessS.nil _) rfl) rfl) rfl) rfl) rfl) _), ⟨by omega, by omega, by rw [rowK, ← hr, rowStep, if_pos (by first | (simp_all; done) | (simp_all; intro h; omega))]⟩, _, (congrArg (St.mk _) (effM_eq (Has.cons rfl (Has.cons rfl Has.nil))).symm)⟩
           | refine ⟨⟨k + 1, _, r ++ [(rowA i (z.getD k default))]⟩, (by dsimp only; omega), _, (LessS.weak (LessS.upd (LessS.upd (LessS.upd (LessS.upd (LessS.upd (LessS.nil _) rfl) rfl) rfl) (by rw [List.length_append]; rfl)) rfl) _), ⟨by omega, by omega, by rw [rowK, ← hr, rowStep, if_neg (by (simp_all; done)), if_neg (by (simp_all; done))]⟩, _, (congrArg (St.mk _) (effM_eq (Has.cons rfl (Has.cons rfl Has.nil))).symm)⟩
           | refine ⟨⟨k + 1, _, r ++ [(rowA i (z.getD k default))] ++ [(mate i.pairs (rowA i (z.getD k default)))]⟩, (by dsimp only; omega), _, (LessS.weak (LessS.upd (LessS.upd (LessS.upd (LessS.upd (LessS.upd (LessS.nil _) rfl) rfl) rfl) (by rw [List.length_append, List.length_append]; rfl)) rfl) _), ⟨by omega, by omega, by rw [rowK, ← hr, rowStep, if_neg (by first | (simp_all; done) | (simp_all; intro h; omega)), if_pos (by first | (simp_all; done) | (simp_all; intro h; omega))]⟩, _, (congrArg (St.mk _) (effM_eq (Has.cons rfl (Has.cons rfl Has.nil))).symm)⟩
         ·rw [h93]
          replace h93 := of_decide_eq_false h93
          refine GL.guardF rfl ?_
          refine GL.guardF rfl ?_
          refine GL.guardF rfl ?_
          refine GL.pick I0.mono rfl (by conv => lhs; whnf) ?_
          refine GL.doneF ?_
          refine goOn ?_
          refine Wp.condF rfl ?_
          refine Wp.skipI ?_
          refine blockX.normal ?_
          refine goOn ?_
          refine Wp.regI I0.mono ?_
          refine GL.move I0.mono (by conv => lhs; whnf) ?_
          refine GL.addR I0.mono rfl rfl (by omega) ?_
          refine GL.assign I0.mono (by conv => lhs; whnf) ?_
          refine GL.doneF ?_
          first
          | refine ⟨⟨k + 1, _, r⟩, (by dsimp only; omega), _, (LessS.weak (LessS.upd (LessS.upd (LessS.upd (LessS.upd (LessS.upd (LessS.nil _) rfl) rfl) rfl) rfl) rfl) _), ⟨by omega, by omega, by rw [rowK, ← hr, rowStep, if_pos (by first | (simp_all; done) | (simp_all; intro h; omega))]⟩, _, (congrArg (St.mk _) (effM_eq (Has.cons rfl (Has.cons rfl Has.nil))).symm)⟩
          | refine ⟨⟨k + 1, _, r ++ [(rowA i (z.getD k default))]⟩, (by dsimp only; omega), _, (LessS.weak (LessS.upd (LessS.upd (LessS.upd (LessS.upd (LessS.upd (LessS.nil _) rfl) rfl) rfl) (by rw [List.length_append]; rfl)) rfl) _), ⟨by omega, by omega, by rw [rowK, ← hr, rowStep, if_neg (by (simp_all; done)), if_neg (by (simp_all; intro h; omega))]⟩, _, (congrArg (St.mk _) (effM_eq (Has.cons rfl (Has.cons rfl Has.nil))).symm)⟩
          | refine ⟨⟨k + 1, _, r ++ [(rowA i (z.getD k default))] ++ [(mate i.pairs (rowA i (z.getD k default)))]⟩, (by dsimp only; omega), _, (LessS.weak (LessS.upd (LessS.upd (LessS.upd (LessS.upd (LessS.upd (LessS.nil _) rfl) rfl) rfl) (by rw [List.length_append, List.length_append]; rfl)) rfl) _), ⟨by omega, by omega, by rw [rowK, ← hr, rowStep, if_neg (by first | (simp_all; done) | (simp_all; intro h; omega)), if_pos (by first | (simp_all; done) | (simp_all; intro h; omega))]⟩, _, (congrArg (St.mk _) (effM_eq (Has.cons rfl (Has.cons rfl Has.nil))).symm)⟩
        ·rw [h83]
         replace h83 := of_decide_eq_false h83
         refine GL.guardF rfl ?_
         refine GL.guardF rfl ?_
         refine GL.guardF rfl ?_
         refine GL.guardF rfl ?_
         refine GL.guardF rfl ?_
         refine GL.guardF rfl ?_
         refine GL.guardF rfl ?_
         refine GL.guardF rfl ?_
         refine GL.pick I0.mono rfl (by conv => lhs; whnf) ?_
         refine GL.move I0.mono (by conv => lhs; whnf) ?_
         refine GL.guardF rfl ?_
         refine GL.guardF rfl ?_
         refine GL.guardF rfl ?_
         refine GL.pick I0.mono rfl (by conv => lhs; whnf) ?_
         refine GL.doneF ?_
         refine goOn ?_
         refine Wp.condF rfl ?_
         refine Wp.skipI ?_
         refine blockX.normal ?_
         refine goOn ?_
         refine Wp.regI I0.mono ?_
         refine GL.move I0.mono (by conv => lhs; whnf) ?_
         refine GL.addR I0.mono rfl rfl (by omega) ?_
         refine GL.assign I0.mono (by conv => lhs; whnf) ?_
         refine GL.doneF ?_
         first
         | refine ⟨⟨k + 1, _, r⟩, (by dsimp only; omega), _, (LessS.weak (LessS.upd (LessS.upd (LessS.upd (LessS.upd (LessS.upd (LessS.nil _) rfl) rfl) rfl) rfl) rfl) _), ⟨by omega, by omega, by rw [rowK, ← hr, rowStep, if_pos (by first | (simp_all; done) | (simp_all; intro h; omega))]⟩, _, (congrArg (St.mk _) (effM_eq (Has.cons rfl (Has.cons rfl Has.nil))).symm)⟩
         | refine ⟨⟨k + 1, _, r ++ [(rowA i (z.getD k default))]⟩, (by dsimp only; omega), _, (LessS.weak (LessS.upd (LessS.upd (LessS.upd (LessS.upd (LessS.upd (LessS.nil _) rfl) rfl) rfl) (by rw [List.length_append]; rfl)) rfl) _), ⟨by omega, by omega, by rw [rowK, ← hr, rowStep, if_neg (by (simp_all; done)), if_neg (by (simp_all; intro h; omega))]⟩, _, (congrArg (St.mk _) (effM_eq (Has.cons rfl (Has.cons rfl Has.nil))).symm)⟩
         | refine ⟨⟨k + 1, _, r ++ [(rowA i (z.getD k default))] ++ [(mate i.pairs (rowA i (z.getD k default)))]⟩, (by dsimp only; omega), _, (LessS.weak (LessS.upd (LessS.upd (LessS.upd (LessS.upd (LessS.upd (LessS.nil _) rfl) rfl) rfl) (by rw [List.length_append, List.length_append]; rfl)) rfl) _), ⟨by omega, by omega, by rw [rowK, ← hr, rowStep, if_neg (by first | (simp_all; done) | (simp_all; intro h; omega)), if_pos (by first | (simp_all; done) | (simp_all; intro h; omega))]⟩, _, (congrArg (St.mk _) (effM_eq (Has.cons rfl (Has.cons rfl Has.nil))).symm)⟩
       ·replace h73 := of_decide_eq_false h73
        refine Wp.skipI ?_
        refine blockX.normal ?_
        refine goOn ?_
        refine Wp.regI I0.mono ?_
        refine GL.move I0.mono (by conv => lhs; whnf) ?_
        refine GL.addR I0.mono rfl rfl (by omega) ?_
        refine GL.assign I0.mono (by conv => lhs; whnf) ?_
        refine GL.doneF ?_
        first
        | refine ⟨⟨k + 1, _, r⟩, (by dsimp only; omega), _, (LessS.weak (LessS.upd (LessS.upd (LessS.upd (LessS.upd (LessS.upd (LessS.nil _) rfl) rfl) rfl) rfl) rfl) _), ⟨by omega, by omega, by rw [rowK, ← hr, rowStep, if_pos (by (simp_all; done))]⟩, _, (congrArg (St.mk _) (effM_eq (Has.cons rfl (Has.cons rfl Has.nil))).symm)⟩
        | refine ⟨⟨k + 1, _, r ++ [(rowA i (z.getD k default))]⟩, (by dsimp only; omega), _, (LessS.weak (LessS.upd (LessS.upd (LessS.upd (LessS.upd (LessS.upd (LessS.nil _) rfl) rfl) rfl) (by rw [List.length_append]; rfl)) rfl) _), ⟨by omega, by omega, by rw [rowK, ← hr, rowStep, if_neg (by first | (simp_all; done) | (simp_all; intro h; omega)), if_neg (by first | (simp_all; done) | (simp_all; intro h; omega))]⟩, _, (congrArg (St.mk _) (effM_eq (Has.cons rfl (Has.cons rfl Has.nil))).symm)⟩
        | refine ⟨⟨k + 1, _, r ++ [(rowA i (z.getD k default))] ++ [(mate i.pairs (rowA i (z.getD k default)))]⟩, (by dsimp only; omega), _, (LessS.weak (LessS.upd (LessS.upd (LessS.upd (LessS.upd (LessS.upd (LessS.nil _) rfl) rfl) rfl) (by rw [List.length_append, List.length_append]; rfl)) rfl) _), ⟨by omega, by omega, by rw [rowK, ← hr, rowStep, if_neg (by first | (simp_all; done) | (simp_all; intro h; omega)), if_pos (by first | (simp_all; done) | (simp_all; intro h; omega))]⟩, _, (congrArg (St.mk _) (effM_eq (Has.cons rfl (Has.cons rfl Has.nil))).symm)⟩
    ·replace h41 := of_decide_eq_false h41
     have hA : rowA i (z.getD k default) = 1 + within (z.getD k default) (imax i.stops.length 1) := if_neg h41
     refine Wp.skipI ?_
     refine goOn ?_
     refine Wp.seqI ?_
     refine Wp.regI I0.mono ?_
     refine GL.assign I0.mono (by conv => lhs; whnf) ?_
     refine GL.doneF ?_
     refine goOn ?_
     refine Wp.seqI ?_
     refine Wp.seqI ?_
     refine Wp.regI I0.mono ?_
     refine GL.move I0.mono (by conv => lhs; whnf) ?_
     refine GL.lenO I0.mono rfl rfl rfl rfl ?_
     refine GL.move I0.mono (by conv => lhs; whnf) ?_
     refine GL.doneF ?_
     refine goOn ?_
     refine Wp.blockI ?_
     refine Wp.loopI I0.mono (α := Nat) (fun j st => (j ≤ r.length) ∧ ∃ m0, st = ⟨(updS (updS (updS (updS (updS (updS (updS (updS (updS (updS (fun _ => LV.undef) 1 (.sl (em ni z))) 2 (.ref 128 g2 0 0)) 5 (.fn 26 [])) 6 (.own 700001 g 0 r.length none)) 7 (.int .i64 (k : Int))) 8 (.int .i64 (rowA i (z.getD k default)))) 9 (.bool (Mv.seen (r.take j) (rowA i (z.getD k default))))) 49 (.own 700001 g 0 r.length none)) 50 (.int .i64 (r.length : Int))) 51 (.int .i64 (j : Int))), effM m0 [(128, ⟨g2, false, .var, 4, [ic i]⟩), (700001, ⟨g, false, .slc, 1, em ni r⟩)]⟩) (fun j => r.length - j) 0 ⟨_, (LessS.weak (LessS.upd (LessS.upd (LessS.upd (LessS.upd (LessS.upd (LessS.upd (LessS.upd (LessS.upd (LessS.upd (LessS.upd (LessS.nil _) rfl) rfl) rfl) rfl) rfl) (congrArg (LV.int .i64) hA.symm)) rfl) rfl) rfl) rfl) _), (Nat.zero_le _), _, (congrArg (St.mk _) (effM_eq (Has.cons rfl (Has.cons rfl Has.nil))).symm)⟩ ?_
     rintro j _ ⟨hj, m0, rfl⟩
     refine Wp.seqI ?_
     refine Wp.regI I0.mono ?_
     refine GL.bin I0.mono rfl ?_
     refine GL.doneF ?_
     refine goOn ?_
     refine Wp.seqI ?_
     refine Wp.condI rfl (fun h52 => ?_) (fun h52 => ?_)
     ·replace h52 := of_decide_eq_true h52
      refine Wp.skipI ?_
      refine goOn ?_
      refine Wp.seqI ?_
      refine Wp.blockI ?_
      refine Wp.seqI ?_
      refine Wp.regI I0.mono ?_
      refine GL.indexAddr I0.mono (sz := 1) rfl rfl rfl rfl rfl rfl rfl rfl (by omega) (by omega) (by (conv => lhs; simp only [Nat.zero_add, Int.toNat_natCast])) ?_
      refine GL.load I0.mono rfl rfl rfl rfl (by simp) (by exact em_get (by omega)) rfl ?_
      refine GL.assign I0.mono (by conv => lhs; whnf) ?_
      refine GL.doneF ?_
      refine goOn ?_
      refine Wp.regI I0.mono ?_
      refine GL.move I0.mono (by conv => lhs; whnf) ?_
      refine GL.move I0.mono (by conv => lhs; whnf) ?_
      refine GL.splitAt 56 rfl (fun h56 => ?_) (fun h56 => ?_)
      ·rw [h56]
       skip
       refine GL.guardF rfl ?_
       refine GL.guardF rfl ?_
       refine GL.guardF rfl ?_
       refine GL.pick I0.mono rfl (by conv => lhs; whnf) ?_
       refine GL.assign I0.mono (by conv => lhs; whnf) ?_
       refine GL.doneF ?_
       refine blockX.normal ?_
       refine goOn ?_
       refine Wp.regI I0.mono ?_
       refine GL.addR I0.mono rfl rfl (by omega) ?_
       refine GL.move I0.mono (by conv => lhs; whnf) ?_
       refine GL.doneF ?_
       refine ⟨j + 1, (by dsimp only; omega), _, (LessS.weak (LessS.upd (LessS.upd (LessS.upd (LessS.upd (LessS.upd (LessS.upd (LessS.upd (LessS.upd (LessS.upd (LessS.upd (LessS.nil _) rfl) rfl) rfl) rfl) rfl) rfl) (by show LV.bool _ = LV.bool _; rw [seen_take _ _ (by omega), h56]; simp)) rfl) rfl) rfl) _), (by omega), _, (congrArg (St.mk _) (effM_eq (Has.cons rfl (Has.cons rfl Has.nil))).symm)⟩
      ·rw [h56]
       skip
       refine GL.guardT rfl ?_
       refine GL.move I0.mono (by conv => lhs; whnf) ?_
       refine GL.guardT rfl ?_
       refine GL.move I0.mono (by conv => lhs; whnf) ?_
       refine GL.guardT rfl ?_
       refine GL.bin I0.mono rfl ?_
       refine GL.pick I0.mono rfl (by conv => lhs; whnf) ?_
       refine GL.assign I0.mono (by conv => lhs; whnf) ?_
       refine GL.doneF ?_
       refine blockX.normal ?_
       refine goOn ?_
       refine Wp.regI I0.mono ?_
       refine GL.addR I0.mono rfl rfl (by omega) ?_
       refine GL.move I0.mono (by conv => lhs; whnf) ?_
       refine GL.doneF ?_
       refine ⟨j + 1, (by dsimp only; omega), _, (LessS.weak (LessS.upd (LessS.upd (LessS.upd (LessS.upd (LessS.upd (LessS.upd (LessS.upd (LessS.upd (LessS.upd (LessS.upd (LessS.nil _) rfl) rfl) rfl) rfl) rfl) rfl) (by show LV.bool _ = LV.bool _; rw [seen_take _ _ (by omega), h56]; simp)) rfl) rfl) rfl) _), (by omega), _, (congrArg (St.mk _) (effM_eq (Has.cons rfl (Has.cons rfl Has.nil))).symm)⟩
     ·replace h52 := of_decide_eq_false h52
      obtain rfl : j = r.length := by omega
      have ht : r.take r.length = r := List.take_length
      refine Wp.exitI ?_
      refine thenX.exit ?_
      refine thenX.exit ?_
      refine blockX.out ?_
      refine goOn ?_
      refine Wp.seqI ?_
      refine Wp.regI I0.mono ?_
      refine GL.move I0.mono (by conv => lhs; whnf) ?_
      refine GL.un I0.mono rfl ?_
      refine GL.move I0.mono (by conv => lhs; whnf) ?_
      refine GL.splitAt 64 rfl (fun h64 => ?_) (fun h64 => ?_)
      ·rw [h64]
       skip
       refine GL.guardF rfl ?_
       refine GL.guardF rfl ?_
       refine GL.guardF rfl ?_
       refine GL.guardF rfl ?_
       refine GL.guardF rfl ?_
       refine GL.guardF rfl ?_
       refine GL.guardF rfl ?_
       refine GL.guardF rfl ?_
       refine GL.pick I0.mono rfl (by conv => lhs; whnf) ?_
       refine GL.doneF ?_
       refine goOn ?_
       refine Wp.condT rfl ?_
       refine Wp.seqI ?_
       refine Wp.regI I0.mono ?_
       refine GL.move I0.mono (by conv => lhs; whnf) ?_
       refine GL.move I0.mono (by conv => lhs; whnf) ?_
       refine GL.buildSlice0 I0.mono (sz := 1) (z := [LV.int .i64 0]) rfl rfl rfl rfl (by decide) (by decide) (by decide) (FrzP.cons (S := []) (T := []) (Frz.aggc (S := []) (T := []) (Frz.pure rfl) Frz.aggn) rfl (by decide) rfl (FrzP.nil)) (by conv => lhs; simp only [fillE, List.replicate, List.map, pureC, List.set_cons_zero, List.set_cons_succ]) ?_
       intro g76
       refine GL.append1 I0.mono (f := ni) (v := rowA i (z.getD k default)) (sz := 1) (z := [.int .i64 0]) rfl rfl rfl rfl rfl (by decide) (Nat.le_of_ble_eq_true rfl) rfl rfl rfl rfl rfl rfl rfl rfl rfl rfl rfl rfl rfl rfl rfl rfl (by omega) ?_
       refine GL.assign I0.mono (by conv => lhs; whnf) ?_
       refine GL.doneF ?_
       refine goOn ?_
       refine Wp.seqI ?_
       refine Wp.regI I0.mono ?_
       refine GL.loadW I0.mono (n := 4) rfl rfl rfl rfl (by simp) (by rfl) rfl rfl ?_
       refine GL.move I0.mono (by conv => lhs; whnf) ?_
       refine GL.call0 I0.mono rfl (Frz.aggc (by exact Frz.pures rfl) (Frz.aggc (by exact Frz.pure rfl) (Frz.aggn))) (rmate_ok i hs _) rfl rfl (fun _ => rfl) ?_
       refine GL.assign I0.mono (by conv => lhs; whnf) ?_
       refine GL.doneF ?_
       refine goOn ?_
       refine Wp.seqI ?_
       refine Wp.regI I0.mono ?_
       refine GL.move I0.mono (by conv => lhs; whnf) ?_
       refine GL.bin I0.mono rfl ?_
       refine GL.move I0.mono (by conv => lhs; whnf) ?_
       refine GL.splitAt 83 rfl (fun h83 => ?_) (fun h83 => ?_)
       ·rw [h83]
        replace h83 := of_decide_eq_true h83
        refine GL.guardT rfl ?_
        refine GL.move I0.mono (by conv => lhs; whnf) ?_
        refine GL.guardT rfl ?_
        refine GL.move I0.mono (by conv => lhs; whnf) ?_
        refine GL.guardT rfl ?_
        refine GL.move I0.mono (by conv => lhs; whnf) ?_
        refine GL.guardT rfl ?_
        refine GL.indexAddrF I0.mono (sz := 1) rfl rfl rfl rfl (by omega) (by (rw [em_len]; omega)) (by intro e he; obtain ⟨a, -, rfl⟩ := List.mem_map.1 he; rfl) (by with_reducible exact Int.toNat_natCast _) ?_
        refine GL.guardT rfl ?_
        refine GL.loadF I0.mono rfl rfl (em_get (by omega)) rfl ?_
        refine GL.guardT rfl ?_
        refine GL.quoR I0.mono rfl rfl (by omega) ?_
        refine GL.guardT rfl ?_
        refine GL.call0 I0.mono rfl (Frz.aggc (by exact Frz.pure rfl) (Frz.aggc (by exact Frz.pure rfl) (Frz.aggn))) (within_ok _ 8 (by decide)) rfl rfl (fun _ => rfl) ?_
        refine GL.guardT rfl ?_
        refine GL.bin I0.mono rfl ?_
        refine GL.pick I0.mono rfl (by conv => lhs; whnf) ?_
        refine GL.move I0.mono (by conv => lhs; whnf) ?_
        refine GL.splitAt 93 rfl (fun h93 => ?_) (fun h93 => ?_)
        ·rw [h93]
         replace h93 := of_decide_eq_true h93
         refine GL.guardT rfl ?_
         refine GL.loadW I0.mono (n := 4) rfl rfl rfl rfl (by simp) (by rfl) rfl rfl ?_
         refine GL.guardT rfl ?_
         refine GL.move I0.mono (by conv => lhs; whnf) ?_
         refine GL.guardT rfl ?_
         refine GL.call0 I0.mono rfl (Frz.aggc (by exact Frz.pures rfl) (Frz.aggc (by exact Frz.pure rfl) (Frz.aggn))) (rfirst_ok i hs _) rfl rfl (fun _ => rfl) ?_
         refine GL.pick I0.mono rfl (by conv => lhs; whnf) ?_
         refine GL.doneF ?_
         refine goOn ?_
         refine Wp.condI rfl (fun h97 => ?_) (fun h97 => ?_)
         ·skip
          refine Wp.regI I0.mono ?_
          refine GL.move I0.mono (by conv => lhs; whnf) ?_
          refine GL.move I0.mono (by conv => lhs; whnf) ?_
          refine GL.buildSlice0 I0.mono (sz := 1) (z := [LV.int .i64 0]) rfl rfl rfl rfl (by decide) (by decide) (by decide) (FrzP.cons (S := []) (T := []) (Frz.aggc (S := []) (T := []) (Frz.pure rfl) Frz.aggn) rfl (by decide) rfl (FrzP.nil)) (by conv => lhs; simp only [fillE, List.replicate, List.map, pureC, List.set_cons_zero, List.set_cons_succ]) ?_
          intro g100
          refine GL.append1 I0.mono (f := ni) (v := mate i.pairs (rowA i (z.getD k default))) (sz := 1) (z := [.int .i64 0]) rfl rfl rfl rfl rfl (by decide) (Nat.le_of_ble_eq_true rfl) rfl rfl rfl rfl rfl rfl rfl (by simp) rfl rfl rfl rfl rfl rfl rfl rfl (by omega) ?_
          refine GL.assign I0.mono (by conv => lhs; whnf) ?_
          refine GL.doneF ?_
          refine blockX.normal ?_
          refine goOn ?_
          refine Wp.regI I0.mono ?_
          refine GL.move I0.mono (by conv => lhs; whnf) ?_
          refine GL.addR I0.mono rfl rfl (by omega) ?_
          refine GL.assign I0.mono (by conv => lhs; whnf) ?_
          refine GL.doneF ?_
          first
          | refine ⟨⟨k + 1, _, r⟩, (by dsimp only; omega), _, (LessS.weak (LessS.upd (LessS.upd (LessS.upd (LessS.upd (LessS.upd (LessS.nil _) rfl) rfl) rfl) rfl) rfl) _), ⟨by omega, by omega, by rw [rowK, ← hr, rowStep, if_pos (by first | (simp_all; done) | (simp_all; intro h; omega))]⟩, _, (congrArg (St.mk _) (effM_eq (Has.cons rfl (Has.cons rfl Has.nil))).symm)⟩
          | refine ⟨⟨k + 1, _, r ++ [(rowA i (z.getD k default))]⟩, (by dsimp only; omega), _, (LessS.weak (LessS.upd (LessS.upd (LessS.upd (LessS.upd (LessS.upd (LessS.nil _) rfl) rfl) rfl) (by rw [List.length_append]; rfl)) rfl) _), ⟨by omega, by omega, by rw [rowK, ← hr, rowStep, if_neg (by first | (simp_all; done) | (simp_all; intro h; omega)), if_neg (by first | (simp_all; done) | (simp_all; intro h; omega))]⟩, _, (congrArg (St.mk _) (effM_eq (Has.cons rfl (Has.cons rfl Has.nil))).symm)⟩
          | refine ⟨⟨k + 1, _, r ++ [(rowA i (z.getD k default))] ++ [(mate i.pairs (rowA i (z.getD k default)))]⟩, (by dsimp only; omega), _, (LessS.weak (LessS.upd (LessS.upd (LessS.upd (LessS.upd (LessS.upd (LessS.nil _) rfl) rfl) rfl) (by rw [List.length_append, List.length_append]; rfl)) rfl) _), ⟨by omega, by omega, by rw [rowK, ← hr, rowStep, if_neg (by (simp_all; done)), if_pos (by (simp_all; done))]⟩, _, (congrArg (St.mk _) (effM_eq (Has.cons rfl (Has.cons rfl Has.nil))).symm)⟩
         ·skip
          refine Wp.skipI ?_
          refine blockX.normal ?_
          refine goOn ?_
          refine Wp.regI I0.mono ?_
          refine GL.move I0.mono (by conv => lhs; whnf) ?_
          refine GL.addR I0.mono rfl rfl (by omega) ?_
          refine GL.assign I0.mono (by conv => lhs; whnf) ?_
          refine GL.doneF ?_
          first
          | refine ⟨⟨k + 1, _, r⟩, (by dsimp only; omega), _, (LessS.weak (LessS.upd (LessS.upd (LessS.upd (LessS.upd (LessS.upd (LessS.nil _) rfl) rfl) rfl) rfl) rfl) _), ⟨by omega, by omega, by rw [rowK, ← hr, rowStep, if_pos (by first | (simp_all; done) | (simp_all; intro h; omega))]⟩, _, (congrArg (St.mk _) (effM_eq (Has.cons rfl (Has.cons rfl Has.nil))).symm)⟩
          | refine ⟨⟨k + 1, _, r ++ [(rowA i (z.getD k default))]⟩, (by dsimp only; omega), _, (LessS.weak (LessS.upd (LessS.upd (LessS.upd (LessS.upd (LessS.upd (LessS.nil _) rfl) rfl) rfl) (by rw [List.length_append]; rfl)) rfl) _), ⟨by omega, by omega, by rw [rowK, ← hr, rowStep, if_neg (by (simp_all; done)), if_neg (by (simp_all; done))]⟩, _, (congrArg (St.mk _) (effM_eq (Has.cons rfl (Has.cons rfl Has.nil))).symm)⟩
          | refine ⟨⟨k + 1, _, r ++ [(rowA i (z.getD k default))] ++ [(mate i.pairs (rowA i (z.getD k default)))]⟩, (by dsimp only; omega), _, (LessS.weak (LessS.upd (LessS.upd (LessS.upd (LessS.upd (LessS.upd (LessS.nil _) rfl) rfl) rfl) (by rw [List.length_append, List.length_append]; rfl)) rfl) _), ⟨by omega, by omega, by rw [rowK, ← hr, rowStep, if_neg (by first | (simp_all; done) | (simp_all; intro h; omega)), if_pos (by first | (simp_all; done) | (simp_all; intro h; omega))]⟩, _, (congrArg (St.mk _) (effM_eq (Has.cons rfl (Has.cons rfl Has.nil))).symm)⟩
        ·rw [h93]
         replace h93 := of_decide_eq_false h93
         refine GL.guardF rfl ?_
         refine GL.guardF rfl ?_
         refine GL.guardF rfl ?_
         refine GL.pick I0.mono rfl (by conv => lhs; whnf) ?_
         refine GL.doneF ?_
         refine goOn ?_
         refine Wp.condF rfl ?_
         refine Wp.skipI ?_
         refine blockX.normal ?_
         refine goOn ?_
         refine Wp.regI I0.mono ?_
         refine GL.move I0.mono (by conv => lhs; whnf) ?_
         refine GL.addR I0.mono rfl rfl (by omega) ?_
         refine GL.assign I0.mono (by conv => lhs; whnf) ?_
         refine GL.doneF ?_
         first
         | refine ⟨⟨k + 1, _, r⟩, (by dsimp only; omega), _, (LessS.weak (LessS.upd (LessS.upd (LessS.upd (LessS.upd (LessS.upd (LessS.nil _) rfl) rfl) rfl) rfl) rfl) _), ⟨by omega, by omega, by rw [rowK, ← hr, rowStep, if_pos (by first | (simp_all; done) | (simp_all; intro h; omega))]⟩, _, (congrArg (St.mk _) (effM_eq (Has.cons rfl (Has.cons rfl Has.nil))).symm)⟩
         | refine ⟨⟨k + 1, _, r ++ [(rowA i (z.getD k default))]⟩, (by dsimp only; omega), _, (LessS.weak (LessS.upd (LessS.upd (LessS.upd (LessS.upd (LessS.upd (LessS.nil _) rfl) rfl) rfl) (by rw [List.length_append]; rfl)) rfl) _), ⟨by omega, by omega, by rw [rowK, ← hr, rowStep, if_neg (by (simp_all; done)), if_neg (by (simp_all; intro h; omega))]⟩, _, (congrArg (St.mk _) (effM_eq (Has.cons rfl (Has.cons rfl Has.nil))).symm)⟩
         | refine ⟨⟨k + 1, _, r ++ [(rowA i (z.getD k default))] ++ [(mate i.pairs (rowA i (z.getD k default)))]⟩, (by dsimp only; omega), _, (LessS.weak (LessS.upd (LessS.upd (LessS.upd (LessS.upd (LessS.upd (LessS.nil _) rfl) rfl) rfl) (by rw [List.length_append, List.length_append]; rfl)) rfl) _), ⟨by omega, by omega, by rw [rowK, ← hr, rowStep, if_neg (by first | (simp_all; done) | (simp_all; intro h; omega)), if_pos (by first | (simp_all; done) | (simp_all; intro h; omega))]⟩, _, (congrArg (St.mk _) (effM_eq (Has.cons rfl (Has.cons rfl Has.nil))).symm)⟩
       ·rw [h83]
        replace h83 := of_decide_eq_false h83
        refine GL.guardF rfl ?_
        refine GL.guardF rfl ?_
        refine GL.guardF rfl ?_
        refine GL.guardF rfl ?_
        refine GL.guardF rfl ?_
        refine GL.guardF rfl ?_
        refine GL.guardF rfl ?_
        refine GL.guardF rfl ?_
        refine GL.pick I0.mono rfl (by conv => lhs; whnf) ?_
        refine GL.move I0.mono (by conv => lhs; whnf) ?_
        refine GL.guardF rfl ?_
        refine GL.guardF rfl ?_
        refine GL.guardF rfl ?_
        refine GL.pick I0.mono rfl (by conv => lhs; whnf) ?_
        refine GL.doneF ?_
        refine goOn ?_
        refine Wp.condF rfl ?_
        refine Wp.skipI ?_
        refine blockX.normal ?_
        refine goOn ?_
        refine Wp.regI I0.mono ?_
        refine GL.move I0.mono (by conv => lhs; whnf) ?_
        refine GL.addR I0.mono rfl rfl (by omega) ?_
        refine GL.assign I0.mono (by conv => lhs; whnf) ?_
        refine GL.doneF ?_
        first
        | refine ⟨⟨k + 1, _, r⟩, (by dsimp only; omega), _, (LessS.weak (LessS.upd (LessS.upd (LessS.upd (LessS.upd (LessS.upd (LessS.nil _) rfl) rfl) rfl) rfl) rfl) _), ⟨by omega, by omega, by rw [rowK, ← hr, rowStep, if_pos (by first | (simp_all; done) | (simp_all; intro h; omega))]⟩, _, (congrArg (St.mk _) (effM_eq (Has.cons rfl (Has.cons rfl Has.nil))).symm)⟩
        | refine ⟨⟨k + 1, _, r ++ [(rowA i (z.getD k default))]⟩, (by dsimp only; omega), _, (LessS.weak (LessS.upd (LessS.upd (LessS.upd (LessS.upd (LessS.upd (LessS.nil _) rfl) rfl) rfl) (by rw [List.length_append]; rfl)) rfl) _), ⟨by omega, by omega, by rw [rowK, ← hr, rowStep, if_neg (by (simp_all; done)), if_neg (by (simp_all; intro h; omega))]⟩, _, (congrArg (St.mk _) (effM_eq (Has.cons rfl (Has.cons rfl Has.nil))).symm)⟩
        | refine ⟨⟨k + 1, _, r ++ [(rowA i (z.getD k default))] ++ [(mate i.pairs (rowA i (z.getD k default)))]⟩, (by dsimp only; omega), _, (LessS.weak (LessS.upd (LessS.upd (LessS.upd (LessS.upd (LessS.upd (LessS.nil _) rfl) rfl) rfl) (by rw [List.length_append, List.length_append]; rfl)) rfl) _), ⟨by omega, by omega, by rw [rowK, ← hr, rowStep, if_neg (by first | (simp_all; done) | (simp_all; intro h; omega)), if_pos (by first | (simp_all; done) | (simp_all; intro h; omega))]⟩, _, (congrArg (St.mk _) (effM_eq (Has.cons rfl (Has.cons rfl Has.nil))).symm)⟩
      ·rw [h64]
       skip
       refine GL.guardT rfl ?_
       refine GL.move I0.mono (by conv => lhs; whnf) ?_
       refine GL.guardT rfl ?_
       refine GL.move I0.mono (by conv => lhs; whnf) ?_
       refine GL.guardT rfl ?_
       refine GL.move I0.mono (by conv => lhs; whnf) ?_
       refine GL.guardT rfl ?_
       refine GL.indexAddrF I0.mono (sz := 1) rfl rfl rfl rfl (by omega) (by (rw [em_len]; omega)) (by intro e he; obtain ⟨a, -, rfl⟩ := List.mem_map.1 he; rfl) (by with_reducible exact Int.toNat_natCast _) ?_
       refine GL.guardT rfl ?_
       refine GL.loadF I0.mono rfl rfl (em_get (by omega)) rfl ?_
       refine GL.guardT rfl ?_
       refine GL.quoR I0.mono rfl rfl (by omega) ?_
       refine GL.guardT rfl ?_
       refine GL.call0 I0.mono rfl (Frz.aggc (by exact Frz.pure rfl) (Frz.aggc (by exact Frz.pure rfl) (Frz.aggn))) (within_ok _ 30 (by decide)) rfl rfl (fun _ => rfl) ?_
       refine GL.guardT rfl ?_
       refine GL.bin I0.mono rfl ?_
       refine GL.pick I0.mono rfl (by conv => lhs; whnf) ?_
       refine GL.doneF ?_
       refine goOn ?_
       refine Wp.condI rfl (fun h73 => ?_) (fun h73 => ?_)
       ·replace h73 := of_decide_eq_true h73
        refine Wp.seqI ?_
        refine Wp.regI I0.mono ?_
        refine GL.move I0.mono (by conv => lhs; whnf) ?_
        refine GL.move I0.mono (by conv => lhs; whnf) ?_
        refine GL.buildSlice0 I0.mono (sz := 1) (z := [LV.int .i64 0]) rfl rfl rfl rfl (by decide) (by decide) (by decide) (FrzP.cons (S := []) (T := []) (Frz.aggc (S := []) (T := []) (Frz.pure rfl) Frz.aggn) rfl (by decide) rfl (FrzP.nil)) (by conv => lhs; simp only [fillE, List.replicate, List.map, pureC, List.set_cons_zero, List.set_cons_succ]) ?_
        intro g76
        refine GL.append1 I0.mono (f := ni) (v := rowA i (z.getD k default)) (sz := 1) (z := [.int .i64 0]) rfl rfl rfl rfl rfl (by decide) (Nat.le_of_ble_eq_true rfl) rfl rfl rfl rfl rfl rfl rfl rfl rfl rfl rfl rfl rfl rfl rfl rfl (by omega) ?_
        refine GL.assign I0.mono (by conv => lhs; whnf) ?_
        refine GL.doneF ?_
        refine goOn ?_
        refine Wp.seqI ?_
        refine Wp.regI I0.mono ?_
        refine GL.loadW I0.mono (n := 4) rfl rfl rfl rfl (by simp) (by rfl) rfl rfl ?_
        refine GL.move I0.mono (by conv => lhs; whnf) ?_
        refine GL.call0 I0.mono rfl (Frz.aggc (by exact Frz.pures rfl) (Frz.aggc (by exact Frz.pure rfl) (Frz.aggn))) (rmate_ok i hs _) rfl rfl (fun _ => rfl) ?_
        refine GL.assign I0.mono (by conv => lhs; whnf) ?_
        refine GL.doneF ?_
        refine goOn ?_
        refine Wp.seqI ?_
        refine Wp.regI I0.mono ?_
        refine GL.move I0.mono (by conv => lhs; whnf) ?_
        refine GL.bin I0.mono rfl ?_
        refine GL.move I0.mono (by conv => lhs; whnf) ?_
        refine GL.splitAt 83 rfl (fun h83 => ?_) (fun h83 => ?_)
        ·rw [h83]
         replace h83 := of_decide_eq_true h83
         refine GL.guardT rfl ?_
         refine GL.move I0.mono (by conv => lhs; whnf) ?_
         refine GL.guardT rfl ?_
         refine GL.move I0.mono (by conv => lhs; whnf) ?_
         refine GL.guardT rfl ?_
         refine GL.move I0.mono (by conv => lhs; whnf) ?_
         refine GL.guardT rfl ?_
         refine GL.indexAddrF I0.mono (sz := 1) rfl rfl rfl rfl (by omega) (by (rw [em_len]; omega)) (by intro e he; obtain ⟨a, -, rfl⟩ := List.mem_map.1 he; rfl) (by with_reducible exact Int.toNat_natCast _) ?_
         refine GL.guardT rfl ?_
         refine GL.loadF I0.mono rfl rfl (em_get (by omega)) rfl ?_
         refine GL.guardT rfl ?_
         refine GL.quoR I0.mono rfl rfl (by omega) ?_
         refine GL.guardT rfl ?_
         refine GL.call0 I0.mono rfl (Frz.aggc (by exact Frz.pure rfl) (Frz.aggc (by exact Frz.pure rfl) (Frz.aggn))) (within_ok _ 8 (by decide)) rfl rfl (fun _ => rfl) ?_
         refine GL.guardT rfl ?_
         refine GL.bin I0.mono rfl ?_
         refine GL.pick I0.mono rfl (by conv => lhs; whnf) ?_
         refine GL.move I0.mono (by conv => lhs; whnf) ?_
         refine GL.splitAt 93 rfl (fun h93 => ?_) (fun h93 => ?_)
         ·rw [h93]
          replace h93 := of_decide_eq_true h93
          refine GL.guardT rfl ?_
          refine GL.loadW I0.mono (n := 4) rfl rfl rfl rfl (by simp) (by rfl) rfl rfl ?_
          refine GL.guardT rfl ?_
          refine GL.move I0.mono (by conv => lhs; whnf) ?_
          refine GL.guardT rfl ?_
          refine GL.call0 I0.mono rfl (Frz.aggc (by exact Frz.pures rfl) (Frz.aggc (by exact Frz.pure rfl) (Frz.aggn))) (rfirst_ok i hs _) rfl rfl (fun _ => rfl) ?_
          refine GL.pick I0.mono rfl (by conv => lhs; whnf) ?_
          refine GL.doneF ?_
          refine goOn ?_
          refine Wp.condI rfl (fun h97 => ?_) (fun h97 => ?_)
          ·skip
           refine Wp.regI I0.mono ?_
           refine GL.move I0.mono (by conv => lhs; whnf) ?_
           refine GL.move I0.mono (by conv => lhs; whnf) ?_
           refine GL.buildSlice0 I0.mono (sz := 1) (z := [LV.int .i64 0]) rfl rfl rfl rfl (by decide) (by decide) (by decide) (FrzP.cons (S := []) (T := []) (Frz.aggc (S := []) (T := []) (Frz.pure rfl) Frz.aggn) rfl (by decide) rfl (FrzP.nil)) (by conv => lhs; simp only [fillE, List.replicate, List.map, pureC, List.set_cons_zero, List.set_cons_succ]) ?_
           intro g100
           refine GL.append1 I0.mono (f := ni) (v := mate i.pairs (rowA i (z.getD k default))) (sz := 1) (z := [.int .i64 0]) rfl rfl rfl rfl rfl (by decide) (Nat.le_of_ble_eq_true rfl) rfl rfl rfl rfl rfl rfl rfl (by simp) rfl rfl rfl rfl rfl rfl rfl rfl (by omega) ?_
           refine GL.assign I0.mono (by conv => lhs; whnf) ?_
           refine GL.doneF ?_
           refine blockX.normal ?_
           refine goOn ?_
           refine Wp.regI I0.mono ?_
           refine GL.move I0.mono (by conv => lhs; whnf) ?_
           refine GL.addR I0.mono rfl rfl (by omega) ?_
           refine GL.assign I0.mono (by conv => lhs; whnf) ?_
           refine GL.doneF ?_
           first
           | refine ⟨⟨k + 1, _, r⟩, (by dsimp only; omega), _, (LessS.weak (LessS.upd (LessS.upd (LessS.upd (LessS.upd (LessS.upd (LessS.nil _) rfl) rfl) rfl) rfl) rfl) _), ⟨by omega, by omega, by rw [rowK, ← hr, rowStep, if_pos (by first | (simp_all; done) | (simp_all; intro h; omega))]⟩, _, (congrArg (St.mk _) (effM_eq (Has.cons rfl (Has.cons rfl Has.nil))).symm)⟩
           | refine ⟨⟨k + 1, _, r ++ [(rowA i (z.getD k default))]⟩, (by dsimp only; omega), _, (LessS.weak (LessS.upd (LessS.upd (LessS.upd (LessS.upd (LessS.upd (LessS.nil _) rfl) rfl) rfl) (by rw [List.length_append]; rfl)) rfl) _), ⟨by omega, by omega, by rw [rowK, ← hr, rowStep, if_neg (by first | (simp_all; done) | (simp_all; intro h; omega)), if_neg (by first | (simp_all; done) | (simp_all; intro h; omega))]⟩, _, (congrArg (St.mk _) (effM_eq (Has.cons rfl (Has.cons rfl Has.nil))).symm)⟩
           | refine ⟨⟨k + 1, _, r ++ [(rowA i (z.getD k default))] ++ [(mate i.pairs (rowA i (z.getD k default)))]⟩, (by dsimp only; omega), _, (LessS.weak (LessS.upd (LessS.upd (LessS.upd (LessS.upd (LessS.upd (LessS.nil _) rfl) rfl) rfl) (by rw [List.length_append, List.length_append]; rfl)) rfl) _), ⟨by omega, by omega, by rw [rowK, ← hr, rowStep, if_neg (by (simp_all; done)), if_pos (by (simp_all; done))]⟩, _, (congrArg (St.mk _) (effM_eq (Has.cons rfl (Has.cons rfl Has.nil))).symm)⟩
          ·skip
           refine Wp.skipI ?_
           refine blockX.normal ?_
           refine goOn ?_
           refine Wp.regI I0.mono ?_
           refine GL.move I0.mono (by conv => lhs; whnf) ?_
           refine GL.addR I0.mono rfl rfl (by omega) ?_
           refine GL.assign I0.mono (by conv => lhs; whnf) ?_
           refine GL.doneF ?_
           first
           | refine ⟨⟨k + 1, _, r⟩, (by dsimp only; omega), _, (LessS.weak (LessS.upd (LessS.upd (LessS.upd (LessS.upd (LessS.upd (LessS.nil _) rfl) rfl) rfl) rfl) rfl) _), ⟨by omega, by omega, by rw [rowK, ← hr, rowStep, if_pos (by first | (simp_all; done) | (simp_all; intro h; omega))]⟩, _, (congrArg (St.mk _) (effM_eq (Has.cons rfl (Has.cons rfl Has.nil))).symm)⟩
           | refine ⟨⟨k + 1, _, r ++ [(rowA i (z.getD k default))]⟩, (by dsimp only; omega), _, (LessS.weak (LessS.upd (LessS.upd (LessS.upd (LessS.upd (LessS.upd (LessS.nil _) rfl) rfl) rfl) (by rw [List.length_append]; rfl)) rfl) _), ⟨by omega, by omega, by rw [rowK, ← hr, rowStep, if_neg (by (simp_all; done)), if_neg (by (simp_all; done))]⟩, _, (congrArg (St.mk _) (effM_eq (Has.cons rfl (Has.cons rfl Has.nil))).symm)⟩
           | refine ⟨⟨k + 1, _, r ++ [(rowA i (z.getD k default))] ++ [(mate i.pairs (rowA i (z.getD k default)))]⟩, (by dsimp only; omega), _, (LessS.weak (LessS.upd (LessS.upd (LessS.upd (LessS.upd (LessS.upd (LessS.nil _) rfl) rfl) rfl) (by rw [List.length_append, List.length_append]; rfl)) rfl) _), ⟨by omega, by omega, by rw [rowK, ← hr, rowStep, if_neg (by first | (simp_all; done) | (simp_all; intro h; omega)), if_pos (by first | (simp_all; done) | (simp_all; intro h; omega))]⟩, _, (congrArg (St.mk _) (effM_eq (Has.cons rfl (Has.cons rfl Has.nil))).symm)⟩
         ·rw [h93]
          replace h93 := of_decide_eq_false h93
          refine GL.guardF rfl ?_
          refine GL.guardF rfl ?_
          refine GL.guardF rfl ?_
          refine GL.pick I0.mono rfl (by conv => lhs; whnf) ?_
          refine GL.doneF ?_
          refine goOn ?_
          refine Wp.condF rfl ?_
          refine Wp.skipI ?_
          refine blockX.normal ?_
          refine goOn ?_
          refine Wp.regI I0.mono ?_
          refine GL.move I0.mono (by conv => lhs; whnf) ?_
          refine GL.addR I0.mono rfl rfl (by omega) ?_
          refine GL.assign I0.mono (by conv => lhs; whnf) ?_
          refine GL.doneF ?_
          first
          | refine ⟨⟨k + 1, _, r⟩, (by dsimp only; omega), _, (LessS.weak (LessS.upd (LessS.upd (LessS.upd (LessS.upd (LessS.upd (LessS.nil _) rfl) rfl) rfl) rfl) rfl) _), ⟨by omega, by omega, by rw [rowK, ← hr, rowStep, if_pos (by first | (simp_all; done) | (simp_all; intro h; omega))]⟩, _, (congrArg (St.mk _) (effM_eq (Has.cons rfl (Has.cons rfl Has.nil))).symm)⟩
          | refine ⟨⟨k + 1, _, r ++ [(rowA i (z.getD k default))]⟩, (by dsimp only; omega), _, (LessS.weak (LessS.upd (LessS.upd (LessS.upd (LessS.upd (LessS.upd (LessS.nil _) rfl) rfl) rfl) (by rw [List.length_append]; rfl)) rfl) _), ⟨by omega, by omega, by rw [rowK, ← hr, rowStep, if_neg (by (simp_all; done)), if_neg (by (simp_all; intro h; omega))]⟩, _, (congrArg (St.mk _) (effM_eq (Has.cons rfl (Has.cons rfl Has.nil))).symm)⟩
          | refine ⟨⟨k + 1, _, r ++ [(rowA i (z.getD k default))] ++ [(mate i.pairs (rowA i (z.getD k default)))]⟩, (by dsimp only; omega), _, (LessS.weak (LessS.upd (LessS.upd (LessS.upd (LessS.upd (LessS.upd (LessS.nil _) rfl) rfl) rfl) (by rw [List.length_append, List.length_append]; rfl)) rfl) _), ⟨by omega, by omega, by rw [rowK, ← hr, rowStep, if_neg (by first | (simp_all; done) | (simp_all; intro h; omega)), if_pos (by first | (simp_all; done) | (simp_all; intro h; omega))]⟩, _, (congrArg (St.mk _) (effM_eq (Has.cons rfl (Has.cons rfl Has.nil))).symm)⟩
        ·rw [h83]
         replace h83 := of_decide_eq_false h83
         refine GL.guardF rfl ?_
         refine GL.guardF rfl ?_
         refine GL.guardF rfl ?_
         refine GL.guardF rfl ?_
         refine GL.guardF rfl ?_
         refine GL.guardF rfl ?_
         refine GL.guardF rfl ?_
         refine GL.guardF rfl ?_
         refine GL.pick I0.mono rfl (by conv => lhs; whnf) ?_
         refine GL.move I0.mono (by conv => lhs; whnf) ?_
         refine GL.guardF rfl ?_
         refine GL.guardF rfl ?_
         refine GL.guardF rfl ?_
         refine GL.pick I0.mono rfl (by conv => lhs; whnf) ?_
         refine GL.doneF ?_
         refine goOn ?_
         refine Wp.condF rfl ?_
         refine Wp.skipI ?_
         refine blockX.normal ?_
         refine goOn ?_
         refine Wp.regI I0.mono ?_
         refine GL.move I0.mono (by conv => lhs; whnf) ?_
         refine GL.addR I0.mono rfl rfl (by omega) ?_
         refine GL.assign I0.mono (by conv => lhs; whnf) ?_
         refine GL.doneF ?_
         first
         | refine ⟨⟨k + 1, _, r⟩, (by dsimp only; omega), _, (LessS.weak (LessS.upd (LessS.upd (LessS.upd (LessS.upd (LessS.upd (LessS.nil _) rfl) rfl) rfl) rfl) rfl) _), ⟨by omega, by omega, by rw [rowK, ← hr, rowStep, if_pos (by first | (simp_all; done) | (simp_all; intro h; omega))]⟩, _, (congrArg (St.mk _) (effM_eq (Has.cons rfl (Has.cons rfl Has.nil))).symm)⟩
         | refine ⟨⟨k + 1, _, r ++ [(rowA i (z.getD k default))]⟩, (by dsimp only; omega), _, (LessS.weak (LessS.upd (LessS.upd (LessS.upd (LessS.upd (LessS.upd (LessS.nil _) rfl) rfl) rfl) (by rw [List.length_append]; rfl)) rfl) _), ⟨by omega, by omega, by rw [rowK, ← hr, rowStep, if_neg (by (simp_all; done)), if_neg (by (simp_all; intro h; omega))]⟩, _, (congrArg (St.mk _) (effM_eq (Has.cons rfl (Has.cons rfl Has.nil))).symm)⟩
         | refine ⟨⟨k + 1, _, r ++ [(rowA i (z.getD k default))] ++ [(mate i.pairs (rowA i (z.getD k default)))]⟩, (by dsimp only; omega), _, (LessS.weak (LessS.upd (LessS.upd (LessS.upd (LessS.upd (LessS.upd (LessS.nil _) rfl) rfl) rfl) (by rw [List.length_append, List.length_append]; rfl)) rfl) _), ⟨by omega, by omega, by rw [rowK, ← hr, rowStep, if_neg (by first | (simp_all; done) | (simp_all; intro h; omega)), if_pos (by first | (simp_all; done) | (simp_all; intro h; omega))]⟩, _, (congrArg (St.mk _) (effM_eq (Has.cons rfl (Has.cons rfl Has.nil))).symm)⟩
       ·replace h73 := of_decide_eq_false h73
        refine Wp.skipI ?_
        refine blockX.normal ?_
        refine goOn ?_
        refine Wp.regI I0.mono ?_
        refine GL.move I0.mono (by conv => lhs; whnf) ?_
        refine GL.addR I0.mono rfl rfl (by omega) ?_
        refine GL.assign I0.mono (by conv => lhs; whnf) ?_
        refine GL.doneF ?_
        first
        | refine ⟨⟨k + 1, _, r⟩, (by dsimp only; omega), _, (LessS.weak (LessS.upd (LessS.upd (LessS.upd (LessS.upd (LessS.upd (LessS.nil _) rfl) rfl) rfl) rfl) rfl) _), ⟨by omega, by omega, by rw [rowK, ← hr, rowStep, if_pos (by (simp_all; done))]⟩, _, (congrArg (St.mk _) (effM_eq (Has.cons rfl (Has.cons rfl Has.nil))).symm)⟩
        | refine ⟨⟨k + 1, _, r ++ [(rowA i (z.getD k default))]⟩, (by dsimp only; omega), _, (LessS.weak (LessS.upd (LessS.upd (LessS.upd (LessS.upd (LessS.upd (LessS.nil _) rfl) rfl) rfl) (by rw [List.length_append]; rfl)) rfl) _), ⟨by omega, by omega, by rw [rowK, ← hr, rowStep, if_neg (by first | (simp_all; done) | (simp_all; intro h; omega)), if_neg (by first | (simp_all; done) | (simp_all; intro h; omega))]⟩, _, (congrArg (St.mk _) (effM_eq (Has.cons rfl (Has.cons rfl Has.nil))).symm)⟩
        | refine ⟨⟨k + 1, _, r ++ [(rowA i (z.getD k default))] ++ [(mate i.pairs (rowA i (z.getD k default)))]⟩, (by dsimp only; omega), _, (LessS.weak (LessS.upd (LessS.upd (LessS.upd (LessS.upd (LessS.upd (LessS.nil _) rfl) rfl) rfl) (by rw [List.length_append, List.length_append]; rfl)) rfl) _), ⟨by omega, by omega, by rw [rowK, ← hr, rowStep, if_neg (by first | (simp_all; done) | (simp_all; intro h; omega)), if_pos (by first | (simp_all; done) | (simp_all; intro h; omega))]⟩, _, (congrArg (St.mk _) (effM_eq (Has.cons rfl (Has.cons rfl Has.nil))).symm)⟩
   ·replace h20 := of_decide_eq_false h20
    refine Wp.exitI ?_
    refine thenX.exit ?_
    refine thenX.exit ?_
    refine blockX.out ?_
    refine goOn ?_
    refine Wp.seqI ?_
    refine Wp.regI I0.mono ?_
    refine GL.move I0.mono (by conv => lhs; whnf) ?_
    refine GL.assign I0.mono (by conv => lhs; whnf) ?_
    refine GL.doneF ?_
    refine goOn ?_
    refine Wp.retI ?_
    refine RetX.ret ?_
    refine ⟨_, _, _, _, .cons (.tmp rfl) .nil, .frz (Frz.whole rfl rfl rfl rfl (em_len _ _)), List.nodup_nil, by simp, ?_⟩
    show LV.sl (em ni r) = _
    rw [hr, rowOf, show min z.length 7 = k by omega]
  ·rw [h17]
   replace h17 := of_decide_eq_false h17
   refine GL.guardF rfl ?_
   refine GL.guardF rfl ?_
   refine GL.pick I0.mono rfl (by conv => lhs; whnf) ?_
   refine GL.doneF ?_
   refine goOn ?_
   refine Wp.condF rfl ?_
   refine Wp.exitI ?_
   refine thenX.exit ?_
   refine thenX.exit ?_
   refine blockX.out ?_
   refine goOn ?_
   refine Wp.seqI ?_
   refine Wp.regI I0.mono ?_
   refine GL.move I0.mono (by conv => lhs; whnf) ?_
   refine GL.assign I0.mono (by conv => lhs; whnf) ?_
   refine GL.doneF ?_
   refine goOn ?_
   refine Wp.retI ?_
   refine RetX.ret ?_
   refine ⟨_, _, _, _, .cons (.tmp rfl) .nil, .frz (Frz.whole rfl rfl rfl rfl (em_len _ _)), List.nodup_nil, by simp, ?_⟩
   show LV.sl (em ni r) = _
   rw [hr, rowOf, show min z.length 7 = k by omega]

end Go.Proofs.Ytpepcfombibpeaa
