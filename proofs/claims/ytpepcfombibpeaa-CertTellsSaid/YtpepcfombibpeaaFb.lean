/- The order of a trip, and its evaluation, walked. -/
import Derived.Test.YtpepcfombibpeaaFa
import Derived.Test.YtpepcfombibpeaaMvC
import Derived.KernelRfl
set_option linter.unusedVariables false
set_option linter.unusedSimpArgs false
namespace Go.Proofs.Ytpepcfombibpeaa
open Go.Proofs Mv


set_option maxRecDepth 100000 in
set_option maxHeartbeats 4000000 in
theorem order_ok (i : Inst) (hs : i.Short) (l : List Int) (hl : Short l) : CallsV Try.prog 61 [ei i, .sl (em ni l)] (.bool (order i l)) := by
  refine CallsR.intro (I0.sound _) mix Try.func61 rfl rfl (by simp [Try.f61]) (by kernel_rfl) (nb := 0) ?_
  unfold Try.f61
  refine Wp.seqI ?_
  refine Wp.regI I0.mono ?_
  refine GL.box I0.mono (by conv => lhs; whnf) rfl (n := 4) rfl rfl ?_
  intro g2
  refine GL.assign I0.mono (by conv => lhs; whnf) ?_
  refine GL.doneF ?_
  refine goOn ?_
  refine Wp.seqI ?_
  refine Wp.seqI ?_
  refine Wp.regI I0.mono ?_
  refine GL.move I0.mono (by conv => lhs; whnf) ?_
  refine GL.lenF I0.mono rfl rfl (em_len _ _) ?_
  refine GL.move I0.mono (by conv => lhs; whnf) ?_
  refine GL.doneF ?_
  refine goOn ?_
  refine Wp.blockI ?_
  refine Wp.loopI I0.mono (α := Nat) (fun k st => (k ≤ l.length ∧ ∀ j, j < k → chk i l j (l.getD j default) = true) ∧ ∃ m0, st = ⟨(updS (updS (updS (updS (updS (fun _ => LV.undef) 9 (.sl (em ni l))) 10 (.int .i64 (l.length : Int))) 11 (.int .i64 (k : Int))) 1 (.sl (em ni l))) 2 (.ref 128 g2 0 0)), effM m0 [(128, ⟨g2, false, .var, 4, [ic i]⟩)]⟩) (fun k => l.length - k) 0 ⟨_, (LessS.weak (LessS.upd (LessS.upd (LessS.upd (LessS.upd (LessS.upd (LessS.nil _) rfl) rfl) rfl) rfl) rfl) _), ⟨by omega, fun j h => by omega⟩, _, (congrArg (St.mk _) (effM_eq (Has.cons rfl Has.nil)).symm)⟩ ?_
  rintro k _ ⟨⟨hi, hA⟩, m0, rfl⟩
  have hsp := hl
  unfold Short at hsp
  refine Wp.seqI ?_
  refine Wp.regI I0.mono ?_
  refine GL.bin I0.mono rfl ?_
  refine GL.doneF ?_
  refine goOn ?_
  refine Wp.seqI ?_
  refine Wp.condI rfl (fun h12 => ?_) (fun h12 => ?_)
  ·replace h12 := of_decide_eq_true h12
   refine Wp.skipI ?_
   refine goOn ?_
   refine Wp.seqI ?_
   refine Wp.blockI ?_
   refine Wp.seqI ?_
   refine Wp.regI I0.mono ?_
   refine GL.move I0.mono (by conv => lhs; whnf) ?_
   refine GL.indexAddrF I0.mono (sz := 1) rfl rfl rfl rfl (by omega) (by (rw [em_len]; omega)) (by intro e he; obtain ⟨a, -, rfl⟩ := List.mem_map.1 he; rfl) (by with_reducible exact Int.toNat_natCast _) ?_
   refine GL.loadF I0.mono rfl rfl (em_get (by omega)) rfl ?_
   refine GL.assign I0.mono (by conv => lhs; whnf) ?_
   refine GL.assign I0.mono (by conv => lhs; whnf) ?_
   refine GL.doneF ?_
   refine goOn ?_
   refine Wp.seqI ?_
   refine Wp.seqI ?_
   refine Wp.regI I0.mono ?_
   refine GL.loadW I0.mono (n := 4) rfl rfl rfl rfl (by simp) rfl rfl rfl ?_
   refine GL.move I0.mono (by conv => lhs; whnf) ?_
   refine GL.call0 I0.mono rfl (Frz.aggc (by exact Frz.pures rfl) (Frz.aggc (by exact Frz.pure rfl) (Frz.aggn))) (is_ok i _) rfl rfl (fun _ => rfl) ?_
   refine GL.un I0.mono rfl ?_
   refine GL.move I0.mono (by conv => lhs; whnf) ?_
   refine GL.splitAt 20 rfl (fun h20 => ?_) (fun h20 => ?_)
   ·rw [h20]
    skip
    refine GL.guardF rfl ?_
    refine GL.guardF rfl ?_
    refine GL.guardF rfl ?_
    refine GL.guardF rfl ?_
    refine GL.guardF rfl ?_
    refine GL.pick I0.mono rfl (by conv => lhs; whnf) ?_
    refine GL.doneF ?_
    refine goOn ?_
    refine Wp.condT rfl ?_
    refine Wp.seqI ?_
    refine Wp.regI I0.mono ?_
    refine GL.assign I0.mono (by conv => lhs; whnf) ?_
    refine GL.doneF ?_
    refine goOn ?_
    refine Wp.retI ?_
    refine thenX.ret ?_
    refine blockX.ret ?_
    refine thenX.ret ?_
    refine thenX.ret ?_
    refine blockX.ret ?_
    refine thenX.ret ?_
    refine RetX.ret ?_
    refine ⟨_, _, _, _, .cons (.tmp rfl) .nil, .frz (.pure rfl), List.nodup_nil, by simp, ?_⟩
    first
    | exact congrArg LV.bool (order_true fun j hj => hA j (by omega)).symm
    | (refine congrArg LV.bool (order_false (k := k) (by omega) ?_).symm; unfold chk; simp_all [has]; done)
   ·rw [h20]
    skip
    refine GL.guardT rfl ?_
    refine GL.move I0.mono (by conv => lhs; whnf) ?_
    refine GL.guardT rfl ?_
    refine GL.move I0.mono (by conv => lhs; whnf) ?_
    refine GL.guardT rfl ?_
    refine GL.sliceTo I0.mono (sz := 1) rfl rfl rfl rfl (by intro e he; obtain ⟨a, -, rfl⟩ := List.mem_map.1 he; rfl) (by omega) (by omega) (by with_reducible exact Int.toNat_natCast _) ?_
    refine GL.guardT rfl ?_
    refine GL.move I0.mono (by conv => lhs; whnf) ?_
    refine GL.guardT rfl ?_
    refine GL.call0 I0.mono rfl (Frz.aggc (by exact Frz.pure rfl) (Frz.aggc (by exact Frz.pure rfl) (Frz.aggn))) (contains_ok (l.take k) (hl.take k) _) rfl rfl (fun _ => rfl) ?_
    refine GL.pick I0.mono rfl (by conv => lhs; whnf) ?_
    refine GL.doneF ?_
    refine goOn ?_
    refine Wp.condI rfl (fun h26 => ?_) (fun h26 => ?_)
    ·replace h26 := of_decide_eq_true h26
     refine Wp.seqI ?_
     refine Wp.regI I0.mono ?_
     refine GL.assign I0.mono (by conv => lhs; whnf) ?_
     refine GL.doneF ?_
     refine goOn ?_
     refine Wp.retI ?_
     refine thenX.ret ?_
     refine blockX.ret ?_
     refine thenX.ret ?_
     refine thenX.ret ?_
     refine blockX.ret ?_
     refine thenX.ret ?_
     refine RetX.ret ?_
     refine ⟨_, _, _, _, .cons (.tmp rfl) .nil, .frz (.pure rfl), List.nodup_nil, by simp, ?_⟩
     first
     | exact congrArg LV.bool (order_true fun j hj => hA j (by omega)).symm
     | (refine congrArg LV.bool (order_false (k := k) (by omega) ?_).symm; unfold chk; simp_all [has]; done)
    ·replace h26 := of_decide_eq_false h26
     refine Wp.skipI ?_
     refine goOn ?_
     refine Wp.seqI ?_
     refine Wp.regI I0.mono ?_
     refine GL.loadW I0.mono (n := 4) rfl rfl rfl rfl (by simp) rfl rfl rfl ?_
     refine GL.move I0.mono (by conv => lhs; whnf) ?_
     refine GL.call0 I0.mono rfl (Frz.aggc (by exact Frz.pures rfl) (Frz.aggc (by exact Frz.pure rfl) (Frz.aggn))) (mate_ok i hs _) rfl rfl (fun _ => rfl) ?_
     refine GL.assign I0.mono (by conv => lhs; whnf) ?_
     refine GL.doneF ?_
     refine goOn ?_
     refine Wp.seqI ?_
     refine Wp.seqI ?_
     refine Wp.regI I0.mono ?_
     refine GL.move I0.mono (by conv => lhs; whnf) ?_
     refine GL.bin I0.mono rfl ?_
     refine GL.doneF ?_
     refine goOn ?_
     refine Wp.condI rfl (fun h31 => ?_) (fun h31 => ?_)
     ·replace h31 := of_decide_eq_true h31
      refine Wp.exitI ?_
      refine thenX.exit ?_
      refine blockX.out ?_
      refine goOn ?_
      refine Wp.regI I0.mono ?_
      refine GL.addR I0.mono rfl rfl (by omega) ?_
      refine GL.move I0.mono (by conv => lhs; whnf) ?_
      refine GL.doneF ?_
      have hk : chk i l k (l.getD k default) = true := by
        unfold chk
        simp_all [has]
      refine ⟨k + 1, (by dsimp only; omega), _, (LessS.weak (LessS.upd (LessS.upd (LessS.upd (LessS.upd (LessS.upd (LessS.nil _) rfl) rfl) rfl) rfl) rfl) _), ⟨by omega, fun j h => by
            by_cases hj : j = k
            · subst hj; exact hk
            · exact hA j (by omega)⟩, _, (congrArg (St.mk _) (effM_eq (Has.cons rfl Has.nil)).symm)⟩
     ·replace h31 := of_decide_eq_false h31
      refine Wp.skipI ?_
      refine goOn ?_
      refine Wp.seqI ?_
      refine Wp.regI I0.mono ?_
      refine GL.move I0.mono (by conv => lhs; whnf) ?_
      refine GL.move I0.mono (by conv => lhs; whnf) ?_
      refine GL.call0 I0.mono rfl (Frz.aggc (by exact Frz.pure rfl) (Frz.aggc (by exact Frz.pure rfl) (Frz.aggn))) (index_ok l hl _) rfl rfl (fun _ => rfl) ?_
      refine GL.assign I0.mono (by conv => lhs; whnf) ?_
      refine GL.doneF ?_
      refine goOn ?_
      refine Wp.seqI ?_
      refine Wp.regI I0.mono ?_
      refine GL.move I0.mono (by conv => lhs; whnf) ?_
      refine GL.bin I0.mono rfl ?_
      refine GL.move I0.mono (by conv => lhs; whnf) ?_
      refine GL.splitAt 37 rfl (fun h37 => ?_) (fun h37 => ?_)
      ·rw [h37]
       replace h37 := of_decide_eq_true h37
       refine GL.guardF rfl ?_
       refine GL.guardF rfl ?_
       refine GL.guardF rfl ?_
       refine GL.guardF rfl ?_
       refine GL.guardF rfl ?_
       refine GL.guardF rfl ?_
       refine GL.guardF rfl ?_
       refine GL.pick I0.mono rfl (by conv => lhs; whnf) ?_
       refine GL.doneF ?_
       refine goOn ?_
       refine Wp.condT rfl ?_
       refine Wp.seqI ?_
       refine Wp.regI I0.mono ?_
       refine GL.assign I0.mono (by conv => lhs; whnf) ?_
       refine GL.doneF ?_
       refine goOn ?_
       refine Wp.retI ?_
       refine blockX.ret ?_
       refine thenX.ret ?_
       refine thenX.ret ?_
       refine blockX.ret ?_
       refine thenX.ret ?_
       refine RetX.ret ?_
       refine ⟨_, _, _, _, .cons (.tmp rfl) .nil, .frz (.pure rfl), List.nodup_nil, by simp, ?_⟩
       first
       | exact congrArg LV.bool (order_true fun j hj => hA j (by omega)).symm
       | (refine congrArg LV.bool (order_false (k := k) (by omega) ?_).symm; unfold chk; simp_all [has]; done)
      ·rw [h37]
       replace h37 := of_decide_eq_false h37
       refine GL.guardT rfl ?_
       refine GL.loadW I0.mono (n := 4) rfl rfl rfl rfl (by simp) rfl rfl rfl ?_
       refine GL.guardT rfl ?_
       refine GL.move I0.mono (by conv => lhs; whnf) ?_
       refine GL.guardT rfl ?_
       refine GL.call0 I0.mono rfl (Frz.aggc (by exact Frz.pures rfl) (Frz.aggc (by exact Frz.pure rfl) (Frz.aggn))) (first_ok i hs _) rfl rfl (fun _ => rfl) ?_
       refine GL.guardT rfl ?_
       refine GL.move I0.mono (by conv => lhs; whnf) ?_
       refine GL.guardT rfl ?_
       refine GL.move I0.mono (by conv => lhs; whnf) ?_
       refine GL.guardT rfl ?_
       refine GL.bin I0.mono rfl ?_
       refine GL.guardT rfl ?_
       refine GL.bin I0.mono rfl ?_
       refine GL.pick I0.mono rfl (by conv => lhs; whnf) ?_
       refine GL.doneF ?_
       refine goOn ?_
       refine Wp.condI rfl (fun h45 => ?_) (fun h45 => ?_)
       ·skip
        refine Wp.seqI ?_
        refine Wp.regI I0.mono ?_
        refine GL.assign I0.mono (by conv => lhs; whnf) ?_
        refine GL.doneF ?_
        refine goOn ?_
        refine Wp.retI ?_
        refine blockX.ret ?_
        refine thenX.ret ?_
        refine thenX.ret ?_
        refine blockX.ret ?_
        refine thenX.ret ?_
        refine RetX.ret ?_
        refine ⟨_, _, _, _, .cons (.tmp rfl) .nil, .frz (.pure rfl), List.nodup_nil, by simp, ?_⟩
        first
        | exact congrArg LV.bool (order_true fun j hj => hA j (by omega)).symm
        | (refine congrArg LV.bool (order_false (k := k) (by omega) ?_).symm; unfold chk; simp_all [has]; done)
       ·skip
        refine Wp.skipI ?_
        refine blockX.normal ?_
        refine goOn ?_
        refine Wp.regI I0.mono ?_
        refine GL.addR I0.mono rfl rfl (by omega) ?_
        refine GL.move I0.mono (by conv => lhs; whnf) ?_
        refine GL.doneF ?_
        have hk : chk i l k (l.getD k default) = true := by
          unfold chk
          simp_all [has]
        refine ⟨k + 1, (by dsimp only; omega), _, (LessS.weak (LessS.upd (LessS.upd (LessS.upd (LessS.upd (LessS.upd (LessS.nil _) rfl) rfl) rfl) rfl) rfl) _), ⟨by omega, fun j h => by
              by_cases hj : j = k
              · subst hj; exact hk
              · exact hA j (by omega)⟩, _, (congrArg (St.mk _) (effM_eq (Has.cons rfl Has.nil)).symm)⟩
  ·replace h12 := of_decide_eq_false h12
   refine Wp.exitI ?_
   refine thenX.exit ?_
   refine thenX.exit ?_
   refine blockX.out ?_
   refine goOn ?_
   refine Wp.seqI ?_
   refine Wp.regI I0.mono ?_
   refine GL.assign I0.mono (by conv => lhs; whnf) ?_
   refine GL.doneF ?_
   refine goOn ?_
   refine Wp.retI ?_
   refine RetX.ret ?_
   refine ⟨_, _, _, _, .cons (.tmp rfl) .nil, .frz (.pure rfl), List.nodup_nil, by simp, ?_⟩
   first
   | exact congrArg LV.bool (order_true fun j hj => hA j (by omega)).symm
   | (refine congrArg LV.bool (order_false (k := k) (by omega) ?_).symm; unfold chk; simp_all [has]; done)




/-- A trip that is handed over whole. -/
def tripO (o : Option Trip) : LV := .tup [.agg [.slo 1 (em ni (o.getD zeroT).t0), .slo 1 (em ni (o.getD zeroT).t1), .int .i64 (o.getD zeroT).t2, .int .i64 (o.getD zeroT).t3], .bool o.isSome]

set_option maxRecDepth 100000 in
set_option maxHeartbeats 4000000 in
theorem eval_own (i : Inst) (hs : i.Short) (car : Int) (l : List Int) (hl : Short l) : CallsV Try.prog 23 [ei i, .int .i64 car, .sl (em ni l)] (tripO (eval i car l)) := by
  refine CallsR.intro (I0.sound _) mix Try.func23 rfl rfl (by simp [Try.f23]) (by kernel_rfl) (nb := 0) ?_
  unfold Try.f23
  refine Wp.seqI ?_
  refine Wp.regI I0.mono ?_
  refine GL.box I0.mono (by conv => lhs; whnf) rfl (n := 4) rfl rfl ?_
  intro g3
  refine GL.alloc I0.mono (cs := [LV.nils, LV.nils, LV.int .i64 0, LV.int .i64 0]) rfl rfl ?_
  intro g6
  refine GL.assign I0.mono (by conv => lhs; whnf) ?_
  refine GL.doneF ?_
  refine goOn ?_
  refine Wp.seqI ?_
  refine Wp.seqI ?_
  refine Wp.regI I0.mono ?_
  refine GL.move I0.mono (by conv => lhs; whnf) ?_
  refine GL.bin I0.mono rfl ?_
  refine GL.move I0.mono (by conv => lhs; whnf) ?_
  refine GL.splitAt 19 rfl (fun h19 => ?_) (fun h19 => ?_)
  ·rw [h19]
   replace h19 := of_decide_eq_true h19
   refine GL.guardF rfl ?_
   refine GL.guardF rfl ?_
   refine GL.guardF rfl ?_
   refine GL.guardF rfl ?_
   refine GL.guardF rfl ?_
   refine GL.pick I0.mono rfl (by conv => lhs; whnf) ?_
   refine GL.move I0.mono (by conv => lhs; whnf) ?_
   refine GL.guardF rfl ?_
   refine GL.guardF rfl ?_
   refine GL.guardF rfl ?_
   refine GL.guardF rfl ?_
   refine GL.pick I0.mono rfl (by conv => lhs; whnf) ?_
   refine GL.doneF ?_
   refine goOn ?_
   refine Wp.condT rfl ?_
   refine Wp.seqI ?_
   refine Wp.regI I0.mono ?_
   refine GL.buildS I0.mono (z := [LV.nils, LV.nils, LV.int .i64 0, LV.int .i64 0]) (cs := [_, _, _, _]) (n := 4) rfl rfl rfl (EvS.nil) rfl rfl ?_
   refine GL.storeW I0.mono (n := 4) rfl rfl rfl rfl rfl rfl rfl (by conv => lhs; whnf) rfl rfl rfl ?_
   refine GL.assign I0.mono (by conv => lhs; whnf) ?_
   refine GL.doneF ?_
   refine goOn ?_
   refine Wp.retI ?_
   refine thenX.ret ?_
   refine RetX.ret ?_
   refine ⟨_, _, _, _, .cons (.cellA (n := 4) rfl rfl rfl (by simp) rfl rfl rfl (Nat.le_of_ble_eq_true rfl)) (.cons (.tmp rfl) .nil), .tup (.aggc (.aggc (by exact Exp.nils (sz := 1)) (.aggc (by exact Exp.nils (sz := 1)) (.aggc (.frz (.pure rfl)) (.aggc (.frz (.pure rfl)) .aggn)))) (.aggc (.frz (.pure rfl)) .aggn)), (by decide), by simp, ?_⟩
   first
   | (rw [eval_out (by exact .inl h19)]; rfl)
   | (rw [eval_in h19 h26 (by simpa using h31) (hE.trans (by rw [drop_getD (by omega), evalGo, if_pos (by first | exact .inl h73 | exact .inr (.inl h77) | exact .inr (.inr h82))]))]; rfl)
   | (rw [eval_in h19 h26 (by simpa using h31) (hE.trans (by rw [drop_all (by omega), evalGo, if_pos (show wadd _ _ > _ from h112)]))]; rfl)
   | (rw [eval_in h19 h26 (by simpa using h31) (hE.trans (by rw [drop_all (by omega), evalGo, if_neg (show ¬ wadd _ _ > _ from h112)]))]; rfl)
  ·rw [h19]
   replace h19 := of_decide_eq_false h19
   refine GL.guardT rfl ?_
   refine GL.move I0.mono (by conv => lhs; whnf) ?_
   refine GL.guardT rfl ?_
   refine GL.fieldAddr I0.mono (o := 0) rfl rfl rfl rfl (by conv => lhs; whnf) ?_
   refine GL.guardT rfl ?_
   refine GL.load I0.mono rfl rfl rfl rfl (by simp) rfl rfl ?_
   refine GL.guardT rfl ?_
   refine GL.lenF I0.mono rfl rfl (em_len _ _) ?_
   refine GL.guardT rfl ?_
   refine GL.bin I0.mono rfl ?_
   refine GL.pick I0.mono rfl (by conv => lhs; whnf) ?_
   refine GL.move I0.mono (by conv => lhs; whnf) ?_
   refine GL.splitAt 26 rfl (fun h26 => ?_) (fun h26 => ?_)
   ·rw [h26]
    replace h26 := of_decide_eq_true h26
    refine GL.guardF rfl ?_
    refine GL.guardF rfl ?_
    refine GL.guardF rfl ?_
    refine GL.guardF rfl ?_
    refine GL.pick I0.mono rfl (by conv => lhs; whnf) ?_
    refine GL.doneF ?_
    refine goOn ?_
    refine Wp.condT rfl ?_
    refine Wp.seqI ?_
    refine Wp.regI I0.mono ?_
    refine GL.buildS I0.mono (z := [LV.nils, LV.nils, LV.int .i64 0, LV.int .i64 0]) (cs := [_, _, _, _]) (n := 4) rfl rfl rfl (EvS.nil) rfl rfl ?_
    refine GL.storeW I0.mono (n := 4) rfl rfl rfl rfl rfl rfl rfl (by conv => lhs; whnf) rfl rfl rfl ?_
    refine GL.assign I0.mono (by conv => lhs; whnf) ?_
    refine GL.doneF ?_
    refine goOn ?_
    refine Wp.retI ?_
    refine thenX.ret ?_
    refine RetX.ret ?_
    refine ⟨_, _, _, _, .cons (.cellA (n := 4) rfl rfl rfl (by simp) rfl rfl rfl (Nat.le_of_ble_eq_true rfl)) (.cons (.tmp rfl) .nil), .tup (.aggc (.aggc (by exact Exp.nils (sz := 1)) (.aggc (by exact Exp.nils (sz := 1)) (.aggc (.frz (.pure rfl)) (.aggc (.frz (.pure rfl)) .aggn)))) (.aggc (.frz (.pure rfl)) .aggn)), (by decide), by simp, ?_⟩
    first
    | (rw [eval_out (by exact .inr (.inl h26))]; rfl)
    | (rw [eval_in h19 h26 (by simpa using h31) (hE.trans (by rw [drop_getD (by omega), evalGo, if_pos (by first | exact .inl h73 | exact .inr (.inl h77) | exact .inr (.inr h82))]))]; rfl)
    | (rw [eval_in h19 h26 (by simpa using h31) (hE.trans (by rw [drop_all (by omega), evalGo, if_pos (show wadd _ _ > _ from h112)]))]; rfl)
    | (rw [eval_in h19 h26 (by simpa using h31) (hE.trans (by rw [drop_all (by omega), evalGo, if_neg (show ¬ wadd _ _ > _ from h112)]))]; rfl)
   ·rw [h26]
    replace h26 := of_decide_eq_false h26
    refine GL.guardT rfl ?_
    refine GL.loadW I0.mono (n := 4) rfl rfl rfl rfl (by simp) rfl rfl rfl ?_
    refine GL.guardT rfl ?_
    refine GL.move I0.mono (by conv => lhs; whnf) ?_
    refine GL.guardT rfl ?_
    refine GL.call0 I0.mono rfl (Frz.aggc (by exact Frz.pures rfl) (Frz.aggc (by exact Frz.pure rfl) (Frz.aggn))) (order_ok i hs l hl) rfl rfl (fun _ => rfl) ?_
    refine GL.guardT rfl ?_
    refine GL.un I0.mono rfl ?_
    refine GL.pick I0.mono rfl (by conv => lhs; whnf) ?_
    refine GL.doneF ?_
    refine goOn ?_
    refine Wp.condI rfl (fun h31 => ?_) (fun h31 => ?_)
    ·skip
     refine Wp.seqI ?_
     refine Wp.regI I0.mono ?_
     refine GL.buildS I0.mono (z := [LV.nils, LV.nils, LV.int .i64 0, LV.int .i64 0]) (cs := [_, _, _, _]) (n := 4) rfl rfl rfl (EvS.nil) rfl rfl ?_
     refine GL.storeW I0.mono (n := 4) rfl rfl rfl rfl rfl rfl rfl (by conv => lhs; whnf) rfl rfl rfl ?_
     refine GL.assign I0.mono (by conv => lhs; whnf) ?_
     refine GL.doneF ?_
     refine goOn ?_
     refine Wp.retI ?_
     refine thenX.ret ?_
     refine RetX.ret ?_
     refine ⟨_, _, _, _, .cons (.cellA (n := 4) rfl rfl rfl (by simp) rfl rfl rfl (Nat.le_of_ble_eq_true rfl)) (.cons (.tmp rfl) .nil), .tup (.aggc (.aggc (by exact Exp.nils (sz := 1)) (.aggc (by exact Exp.nils (sz := 1)) (.aggc (.frz (.pure rfl)) (.aggc (.frz (.pure rfl)) .aggn)))) (.aggc (.frz (.pure rfl)) .aggn)), (by decide), by simp, ?_⟩
     first
     | (rw [eval_out (by exact .inr (.inr (by simpa using h31)))]; rfl)
     | (rw [eval_in h19 h26 (by simpa using h31) (hE.trans (by rw [drop_getD (by omega), evalGo, if_pos (by first | exact .inl h73 | exact .inr (.inl h77) | exact .inr (.inr h82))]))]; rfl)
     | (rw [eval_in h19 h26 (by simpa using h31) (hE.trans (by rw [drop_all (by omega), evalGo, if_pos (show wadd _ _ > _ from h112)]))]; rfl)
     | (rw [eval_in h19 h26 (by simpa using h31) (hE.trans (by rw [drop_all (by omega), evalGo, if_neg (show ¬ wadd _ _ > _ from h112)]))]; rfl)
    ·skip
     refine Wp.skipI ?_
     refine goOn ?_
     refine Wp.seqI ?_
     refine Wp.regI I0.mono ?_
     refine GL.fieldAddr I0.mono (o := 0) rfl rfl rfl rfl (by conv => lhs; whnf) ?_
     refine GL.load I0.mono rfl rfl rfl rfl (by simp) rfl rfl ?_
     refine GL.move I0.mono (by conv => lhs; whnf) ?_
     refine GL.indexAddrF I0.mono (sz := 3) rfl rfl rfl rfl (by omega) (by (rw [em_len]; omega)) (by intro e he; obtain ⟨a, -, rfl⟩ := List.mem_map.1 he; rfl) (by rfl) ?_
     refine GL.loadFW I0.mono (n := 3) rfl rfl (em_get (by omega)) rfl rfl ?_
     refine GL.alloc I0.mono (cs := [LV.int .i64 0, LV.int .i64 0, LV.int .i64 0]) rfl rfl ?_
     intro g8
     refine GL.storeW I0.mono (n := 3) rfl rfl rfl rfl rfl rfl rfl (by conv => lhs; whnf) rfl rfl rfl ?_
     refine GL.doneF ?_
     refine goOn ?_
     refine Wp.seqI ?_
     refine Wp.regI I0.mono ?_
     refine GL.loadW I0.mono (n := 4) rfl rfl rfl rfl (by simp) rfl rfl rfl ?_
     refine GL.move I0.mono (by conv => lhs; whnf) ?_
     refine GL.call0 I0.mono rfl (Frz.aggc (by exact Frz.pures rfl) (Frz.aggc (by exact Frz.pure rfl) (Frz.aggn))) (cost_ok i hs l hl) rfl rfl (fun _ => rfl) ?_
     refine GL.buildS I0.mono (z := [LV.nils, LV.nils, LV.int .i64 0, LV.int .i64 0]) (cs := [_, _, _, _]) (n := 4) rfl rfl rfl (EvS.cons (by conv => lhs; whnf) (EvS.nil)) rfl rfl ?_
     refine GL.alloc I0.mono (cs := [LV.nils, LV.nils, LV.int .i64 0, LV.int .i64 0]) rfl rfl ?_
     intro g9
     refine GL.storeW I0.mono (n := 4) rfl rfl rfl rfl rfl rfl rfl (by conv => lhs; whnf) rfl rfl rfl ?_
     refine GL.doneF ?_
     refine goWeak (Weak.trans (Weak.nilCell (n := 576) (c := 0) 700001 1 rfl rfl rfl rfl rfl rfl) (Weak.nilCell (n := 576) (c := 1) 700002 1 rfl rfl rfl rfl rfl rfl)) ?_
     refine Wp.seqI ?_
     refine Wp.regD ?_
     refine GL.fieldAddr I0.mono (o := 1) rfl rfl rfl rfl (by conv => lhs; whnf) ?_
     refine GL.load I0.mono rfl rfl rfl rfl (by simp) rfl rfl ?_
     refine GL.assign I0.mono (by conv => lhs; whnf) ?_
     refine GL.assign I0.mono (by conv => lhs; whnf) ?_
     refine GL.assign I0.mono (by conv => lhs; whnf) ?_
     refine GL.doneT (by kernel_rfl) ?_
     refine goOn ?_
     refine Wp.seqI ?_
     refine Wp.seqI ?_
     refine Wp.regI I0.mono ?_
     refine GL.move I0.mono (by conv => lhs; whnf) ?_
     refine GL.lenF I0.mono rfl rfl (em_len _ _) ?_
     refine GL.move I0.mono (by conv => lhs; whnf) ?_
     refine GL.doneF ?_
     refine goOn ?_
     refine Wp.blockI ?_
     refine Wp.loopI I0.mono (α := Nat × Int × Int × Int × List Int × List Int × Nat × Nat) (fun ⟨k, p, clock, load, ss, ls, ga, gb⟩ st => (k ≤ l.length ∧ evalGo i (i.cars.getD car.toNat default) 0 (i.cars.getD car.toNat default).c1 0 [] [] l = evalGo i (i.cars.getD car.toNat default) p clock load ss ls (l.drop k) ∧ 0 ≤ p ∧ ss.length = k ∧ ls.length = k) ∧ ∃ m0, st = ⟨(updS (updS (updS (updS (updS (updS (updS (updS (updS (updS (fun _ => LV.undef) 44 (.sl (em ni l))) 45 (.int .i64 (l.length : Int))) 46 (.int .i64 (k : Int))) 3 (.ref 192 g3 0 0)) 6 (.ref 384 g6 0 0)) 8 (.ref 512 g8 0 0)) 9 (.ref 576 g9 0 0)) 10 (.int .i64 p)) 11 (.int .i64 clock)) 12 (.int .i64 load)), effM m0 [(192, ⟨g3, false, .var, 4, [ic i]⟩), (384, ⟨g6, false, .var, 4, [[.nils, .nils, .int .i64 0, .int .i64 0]]⟩), (512, ⟨g8, false, .var, 3, [nc (i.cars.getD car.toNat default)]⟩), (576, ⟨g9, false, .var, 4, [[.own 700001 ga 0 k none, .own 700002 gb 0 k none, .int .i64 (cost i l), .int .i64 0]]⟩), (700001, ⟨ga, false, .slc, 1, em ni ss⟩), (700002, ⟨gb, false, .slc, 1, em ni ls⟩)]⟩) (fun ⟨k, p, clock, load, ss, ls, ga, gb⟩ => l.length - k) ⟨0, 0, (i.cars.getD car.toNat default).c1, 0, [], [], _, _⟩ ⟨_, (LessS.weak (LessS.upd (LessS.upd (LessS.upd (LessS.upd (LessS.upd (LessS.upd (LessS.upd (LessS.upd (LessS.upd (LessS.upd (LessS.nil _) rfl) rfl) rfl) rfl) rfl) rfl) rfl) rfl) rfl) rfl) _), ⟨by omega, rfl, by omega, rfl, rfl⟩, _, (congrArg (St.mk _) (effM_eq (Has.cons rfl (Has.cons rfl (Has.cons rfl (Has.cons rfl (Has.cons rfl (Has.cons rfl Has.nil))))))).symm)⟩ ?_
     rintro ⟨k, p, clock, load, ss, ls, ga, gb⟩ _ ⟨⟨hi, hE, hp, hss, hls⟩, m0, rfl⟩
     have hsp := hl
     have hst := hs.stops
     unfold Short at hsp hst
     refine Wp.seqI ?_
     refine Wp.regI I0.mono ?_
     refine GL.bin I0.mono rfl ?_
     refine GL.doneF ?_
     refine goOn ?_
     refine Wp.seqI ?_
     refine Wp.condI rfl (fun h47 => ?_) (fun h47 => ?_)
     ·replace h47 := of_decide_eq_true h47
      have hx := isStop_le (order_stop (by simpa using h31) k (by omega))
      refine Wp.skipI ?_
      refine goOn ?_
      refine Wp.seqI ?_
      refine Wp.blockI ?_
      refine Wp.seqI ?_
      refine Wp.regI I0.mono ?_
      refine GL.indexAddrF I0.mono (sz := 1) rfl rfl rfl rfl (by omega) (by (rw [em_len]; omega)) (by intro e he; obtain ⟨a, -, rfl⟩ := List.mem_map.1 he; rfl) (by with_reducible exact Int.toNat_natCast _) ?_
      refine GL.loadF I0.mono rfl rfl (em_get (by omega)) rfl ?_
      refine GL.assign I0.mono (by conv => lhs; whnf) ?_
      refine GL.doneF ?_
      refine goOn ?_
      refine Wp.seqI ?_
      refine Wp.regI I0.mono ?_
      refine GL.fieldAddr I0.mono (o := 1) rfl rfl rfl rfl (by conv => lhs; whnf) ?_
      refine GL.load I0.mono rfl rfl rfl rfl (by simp) rfl rfl ?_
      refine GL.move I0.mono (by conv => lhs; whnf) ?_
      refine GL.subR I0.mono rfl rfl (by omega) ?_
      refine GL.indexAddrF I0.mono (sz := 4) rfl rfl rfl rfl (by omega) (by (rw [em_len]; omega)) (by intro e he; obtain ⟨a, -, rfl⟩ := List.mem_map.1 he; rfl) (by rfl) ?_
      refine GL.loadFW I0.mono (n := 4) rfl rfl (em_get (by omega)) rfl rfl ?_
      refine GL.alloc I0.mono (cs := [LV.int .i64 0, LV.int .i64 0, LV.int .i64 0, LV.int .i64 0]) rfl rfl ?_
      intro g15
      refine GL.storeW I0.mono (n := 4) rfl rfl rfl rfl rfl rfl rfl (by conv => lhs; whnf) rfl rfl rfl ?_
      refine GL.doneF ?_
      refine goOn ?_
      refine Wp.seqI ?_
      refine Wp.regD ?_
      refine GL.fieldAddr I0.mono (o := 1) rfl rfl rfl rfl (by conv => lhs; whnf) ?_
      refine GL.load I0.mono rfl rfl rfl rfl (by simp) rfl rfl ?_
      refine GL.move I0.mono (by conv => lhs; whnf) ?_
      refine GL.loadW I0.mono (n := 4) rfl rfl rfl rfl (by simp) rfl rfl rfl ?_
      refine GL.move I0.mono (by conv => lhs; whnf) ?_
      refine GL.move I0.mono (by conv => lhs; whnf) ?_
      refine GL.call0 I0.mono rfl (Frz.aggc (by exact Frz.pures rfl) (Frz.aggc (by exact Frz.pure rfl) (Frz.aggc (by exact Frz.pure rfl) (Frz.aggn)))) (way_ok i hs _ _ (by omega) (by omega)) rfl rfl (fun _ => rfl) ?_
      refine GL.bin I0.mono rfl ?_
      refine GL.max I0.mono rfl ?_
      refine GL.assign I0.mono (by conv => lhs; whnf) ?_
      refine GL.doneT (by kernel_rfl) ?_
      refine goOn ?_
      refine Wp.seqI ?_
      refine Wp.regI I0.mono ?_
      refine GL.move I0.mono (by conv => lhs; whnf) ?_
      refine GL.fieldAddr I0.mono (o := 0) rfl rfl rfl rfl (by conv => lhs; whnf) ?_
      refine GL.load I0.mono rfl rfl rfl rfl (by simp) rfl rfl ?_
      refine GL.bin I0.mono rfl ?_
      refine GL.assign I0.mono (by conv => lhs; whnf) ?_
      refine GL.doneF ?_
      refine goOn ?_
      refine Wp.seqI ?_
      refine Wp.seqI ?_
      refine Wp.regI I0.mono ?_
      refine GL.move I0.mono (by conv => lhs; whnf) ?_
      refine GL.fieldAddr I0.mono (o := 2) rfl rfl rfl rfl (by conv => lhs; whnf) ?_
      refine GL.load I0.mono rfl rfl rfl rfl (by simp) rfl rfl ?_
      refine GL.bin I0.mono rfl ?_
      refine GL.move I0.mono (by conv => lhs; whnf) ?_
      refine GL.splitAt 73 rfl (fun h73 => ?_) (fun h73 => ?_)
      ·rw [h73]
       replace h73 := of_decide_eq_true h73
       refine GL.guardF rfl ?_
       refine GL.guardF rfl ?_
       refine GL.pick I0.mono rfl (by conv => lhs; whnf) ?_
       refine GL.move I0.mono (by conv => lhs; whnf) ?_
       refine GL.guardF rfl ?_
       refine GL.guardF rfl ?_
       refine GL.guardF rfl ?_
       refine GL.guardF rfl ?_
       refine GL.pick I0.mono rfl (by conv => lhs; whnf) ?_
       refine GL.doneF ?_
       refine goOn ?_
       refine Wp.condT rfl ?_
       refine Wp.seqI ?_
       refine Wp.regI I0.mono ?_
       refine GL.buildS I0.mono (z := [LV.nils, LV.nils, LV.int .i64 0, LV.int .i64 0]) (cs := [_, _, _, _]) (n := 4) rfl rfl rfl (EvS.nil) rfl rfl ?_
       refine GL.storeW I0.mono (n := 4) rfl rfl rfl rfl rfl rfl rfl (by conv => lhs; whnf) rfl rfl rfl ?_
       refine GL.assign I0.mono (by conv => lhs; whnf) ?_
       refine GL.doneF ?_
       refine goOn ?_
       refine Wp.retI ?_
       refine thenX.ret ?_
       refine blockX.ret ?_
       refine thenX.ret ?_
       refine thenX.ret ?_
       refine blockX.ret ?_
       refine thenX.ret ?_
       refine RetX.ret ?_
       refine ⟨_, _, _, _, .cons (.cellA (n := 4) rfl rfl rfl (by simp) rfl rfl rfl (Nat.le_of_ble_eq_true rfl)) (.cons (.tmp rfl) .nil), .tup (.aggc (.aggc (by exact Exp.nils (sz := 1)) (.aggc (by exact Exp.nils (sz := 1)) (.aggc (.frz (.pure rfl)) (.aggc (.frz (.pure rfl)) .aggn)))) (.aggc (.frz (.pure rfl)) .aggn)), (by decide), by simp, ?_⟩
       first
       | (rw [eval_out (by first | exact .inl h19 | exact .inr (.inl h26) | exact .inr (.inr (by simpa using h31)))]; rfl)
       | (rw [eval_in h19 h26 (by simpa using h31) (hE.trans (by rw [drop_getD (by omega), evalGo, if_pos (by exact .inl h73)]))]; rfl)
       | (rw [eval_in h19 h26 (by simpa using h31) (hE.trans (by rw [drop_all (by omega), evalGo, if_pos (show wadd _ _ > _ from h112)]))]; rfl)
       | (rw [eval_in h19 h26 (by simpa using h31) (hE.trans (by rw [drop_all (by omega), evalGo, if_neg (show ¬ wadd _ _ > _ from h112)]))]; rfl)
      ·rw [h73]
       replace h73 := of_decide_eq_false h73
       refine GL.guardT rfl ?_
       refine GL.move I0.mono (by conv => lhs; whnf) ?_
       refine GL.guardT rfl ?_
       refine GL.bin I0.mono rfl ?_
       refine GL.pick I0.mono rfl (by conv => lhs; whnf) ?_
       refine GL.move I0.mono (by conv => lhs; whnf) ?_
       refine GL.splitAt 77 rfl (fun h77 => ?_) (fun h77 => ?_)
       ·rw [h77]
        replace h77 := of_decide_eq_true h77
        refine GL.guardF rfl ?_
        refine GL.guardF rfl ?_
        refine GL.guardF rfl ?_
        refine GL.guardF rfl ?_
        refine GL.pick I0.mono rfl (by conv => lhs; whnf) ?_
        refine GL.doneF ?_
        refine goOn ?_
        refine Wp.condT rfl ?_
        refine Wp.seqI ?_
        refine Wp.regI I0.mono ?_
        refine GL.buildS I0.mono (z := [LV.nils, LV.nils, LV.int .i64 0, LV.int .i64 0]) (cs := [_, _, _, _]) (n := 4) rfl rfl rfl (EvS.nil) rfl rfl ?_
        refine GL.storeW I0.mono (n := 4) rfl rfl rfl rfl rfl rfl rfl (by conv => lhs; whnf) rfl rfl rfl ?_
        refine GL.assign I0.mono (by conv => lhs; whnf) ?_
        refine GL.doneF ?_
        refine goOn ?_
        refine Wp.retI ?_
        refine thenX.ret ?_
        refine blockX.ret ?_
        refine thenX.ret ?_
        refine thenX.ret ?_
        refine blockX.ret ?_
        refine thenX.ret ?_
        refine RetX.ret ?_
        refine ⟨_, _, _, _, .cons (.cellA (n := 4) rfl rfl rfl (by simp) rfl rfl rfl (Nat.le_of_ble_eq_true rfl)) (.cons (.tmp rfl) .nil), .tup (.aggc (.aggc (by exact Exp.nils (sz := 1)) (.aggc (by exact Exp.nils (sz := 1)) (.aggc (.frz (.pure rfl)) (.aggc (.frz (.pure rfl)) .aggn)))) (.aggc (.frz (.pure rfl)) .aggn)), (by decide), by simp, ?_⟩
        first
        | (rw [eval_out (by first | exact .inl h19 | exact .inr (.inl h26) | exact .inr (.inr (by simpa using h31)))]; rfl)
        | (rw [eval_in h19 h26 (by simpa using h31) (hE.trans (by rw [drop_getD (by omega), evalGo, if_pos (by exact .inr (.inl h77))]))]; rfl)
        | (rw [eval_in h19 h26 (by simpa using h31) (hE.trans (by rw [drop_all (by omega), evalGo, if_pos (show wadd _ _ > _ from h112)]))]; rfl)
        | (rw [eval_in h19 h26 (by simpa using h31) (hE.trans (by rw [drop_all (by omega), evalGo, if_neg (show ¬ wadd _ _ > _ from h112)]))]; rfl)
       ·rw [h77]
        replace h77 := of_decide_eq_false h77
        refine GL.guardT rfl ?_
        refine GL.move I0.mono (by conv => lhs; whnf) ?_
        refine GL.guardT rfl ?_
        refine GL.fieldAddr I0.mono (o := 0) rfl rfl rfl rfl (by conv => lhs; whnf) ?_
        refine GL.guardT rfl ?_
        refine GL.load I0.mono rfl rfl rfl rfl (by simp) rfl rfl ?_
        refine GL.guardT rfl ?_
        refine GL.bin I0.mono rfl ?_
        refine GL.pick I0.mono rfl (by conv => lhs; whnf) ?_
        refine GL.doneF ?_
        refine goOn ?_
        refine Wp.condI rfl (fun h82 => ?_) (fun h82 => ?_)
        ·replace h82 := of_decide_eq_true h82
         refine Wp.seqI ?_
         refine Wp.regI I0.mono ?_
         refine GL.buildS I0.mono (z := [LV.nils, LV.nils, LV.int .i64 0, LV.int .i64 0]) (cs := [_, _, _, _]) (n := 4) rfl rfl rfl (EvS.nil) rfl rfl ?_
         refine GL.storeW I0.mono (n := 4) rfl rfl rfl rfl rfl rfl rfl (by conv => lhs; whnf) rfl rfl rfl ?_
         refine GL.assign I0.mono (by conv => lhs; whnf) ?_
         refine GL.doneF ?_
         refine goOn ?_
         refine Wp.retI ?_
         refine thenX.ret ?_
         refine blockX.ret ?_
         refine thenX.ret ?_
         refine thenX.ret ?_
         refine blockX.ret ?_
         refine thenX.ret ?_
         refine RetX.ret ?_
         refine ⟨_, _, _, _, .cons (.cellA (n := 4) rfl rfl rfl (by simp) rfl rfl rfl (Nat.le_of_ble_eq_true rfl)) (.cons (.tmp rfl) .nil), .tup (.aggc (.aggc (by exact Exp.nils (sz := 1)) (.aggc (by exact Exp.nils (sz := 1)) (.aggc (.frz (.pure rfl)) (.aggc (.frz (.pure rfl)) .aggn)))) (.aggc (.frz (.pure rfl)) .aggn)), (by decide), by simp, ?_⟩
         first
         | (rw [eval_out (by first | exact .inl h19 | exact .inr (.inl h26) | exact .inr (.inr (by simpa using h31)))]; rfl)
         | (rw [eval_in h19 h26 (by simpa using h31) (hE.trans (by rw [drop_getD (by omega), evalGo, if_pos (by exact .inr (.inr h82))]))]; rfl)
         | (rw [eval_in h19 h26 (by simpa using h31) (hE.trans (by rw [drop_all (by omega), evalGo, if_pos (show wadd _ _ > _ from h112)]))]; rfl)
         | (rw [eval_in h19 h26 (by simpa using h31) (hE.trans (by rw [drop_all (by omega), evalGo, if_neg (show ¬ wadd _ _ > _ from h112)]))]; rfl)
        ·replace h82 := of_decide_eq_false h82
         refine Wp.skipI ?_
         refine goOn ?_
         refine Wp.seqI ?_
         refine Wp.regD ?_
         refine GL.fieldAddr I0.mono (o := 0) rfl rfl rfl rfl (by conv => lhs; whnf) ?_
         refine GL.load I0.mono rfl rfl rfl rfl (by simp) rfl rfl ?_
         refine GL.move I0.mono (by conv => lhs; whnf) ?_
         refine GL.buildSlice0 I0.mono (sz := 1) (z := [LV.int .i64 0]) rfl rfl rfl rfl (by decide) (by decide) (by decide) (FrzP.cons (S := []) (T := []) (Frz.aggc (S := []) (T := []) (Frz.pure rfl) Frz.aggn) rfl (by decide) rfl (FrzP.nil)) (by conv => lhs; simp only [fillE, List.replicate, List.map, pureC, List.set_cons_zero, List.set_cons_succ]) ?_
         intro g87
         refine GL.append1 I0.mono (sz := 1) (z := [.int .i64 0]) rfl rfl rfl rfl rfl (by decide) (Nat.le_of_ble_eq_true rfl) rfl rfl rfl rfl rfl rfl rfl (by omega) rfl rfl rfl rfl rfl rfl rfl rfl (by omega) ?_
         refine GL.fieldAddr I0.mono (o := 1) rfl rfl rfl rfl (by conv => lhs; whnf) ?_
         refine GL.load I0.mono rfl rfl rfl rfl (by simp) rfl rfl ?_
         refine GL.move I0.mono (by conv => lhs; whnf) ?_
         refine GL.buildSlice0 I0.mono (sz := 1) (z := [LV.int .i64 0]) rfl rfl rfl rfl (by decide) (by decide) (by decide) (FrzP.cons (S := []) (T := []) (Frz.aggc (S := []) (T := []) (Frz.pure rfl) Frz.aggn) rfl (by decide) rfl (FrzP.nil)) (by conv => lhs; simp only [fillE, List.replicate, List.map, pureC, List.set_cons_zero, List.set_cons_succ]) ?_
         intro g92
         refine GL.append1 I0.mono (sz := 1) (z := [.int .i64 0]) rfl rfl rfl rfl rfl (by decide) (Nat.le_of_ble_eq_true rfl) rfl rfl rfl rfl rfl rfl rfl (by omega) rfl rfl rfl rfl rfl rfl rfl rfl (by omega) ?_
         refine GL.fieldAddr I0.mono (o := 0) rfl rfl rfl rfl (by conv => lhs; whnf) ?_
         refine GL.store I0.mono (n := 1) rfl rfl rfl rfl rfl rfl rfl rfl rfl rfl (Nat.le_of_ble_eq_true rfl) (by (conv => lhs; simp only [List.take_succ_cons, List.take_zero, List.drop_succ_cons, List.drop_zero, List.nil_append, List.cons_append, List.drop_nil, List.append_nil, List.take_nil, List.set_cons_zero, List.set_cons_succ, Nat.zero_add, ni, nr, nc, ns, np, ic])) (by (conv => lhs; simp only [List.take_succ_cons, List.take_zero, List.drop_succ_cons, List.drop_zero, List.nil_append, List.cons_append, List.drop_nil, List.append_nil, List.take_nil, List.set_cons_zero, List.set_cons_succ, Nat.zero_add, ni, nr, nc, ns, np, ic])) ?_
         refine GL.fieldAddr I0.mono (o := 1) rfl rfl rfl rfl (by conv => lhs; whnf) ?_
         refine GL.store I0.mono (n := 1) rfl rfl rfl rfl rfl rfl rfl rfl rfl rfl (Nat.le_of_ble_eq_true rfl) (by (conv => lhs; simp only [List.take_succ_cons, List.take_zero, List.drop_succ_cons, List.drop_zero, List.nil_append, List.cons_append, List.drop_nil, List.append_nil, List.take_nil, List.set_cons_zero, List.set_cons_succ, Nat.zero_add, ni, nr, nc, ns, np, ic])) (by (conv => lhs; simp only [List.take_succ_cons, List.take_zero, List.drop_succ_cons, List.drop_zero, List.nil_append, List.cons_append, List.drop_nil, List.append_nil, List.take_nil, List.set_cons_zero, List.set_cons_succ, Nat.zero_add, ni, nr, nc, ns, np, ic])) ?_
         refine GL.doneT (by kernel_rfl) ?_
         refine goOn ?_
         refine Wp.regD ?_
         refine GL.move I0.mono (by conv => lhs; whnf) ?_
         refine GL.move I0.mono (by conv => lhs; whnf) ?_
         refine GL.fieldAddr I0.mono (o := 3) rfl rfl rfl rfl (by conv => lhs; whnf) ?_
         refine GL.load I0.mono rfl rfl rfl rfl (by simp) rfl rfl ?_
         refine GL.bin I0.mono rfl ?_
         refine GL.assign I0.mono (by conv => lhs; whnf) ?_
         refine GL.assign I0.mono (by conv => lhs; whnf) ?_
         refine GL.doneT (by kernel_rfl) ?_
         refine blockX.normal ?_
         refine goOn ?_
         refine Wp.regI I0.mono ?_
         refine GL.addR I0.mono rfl rfl (by omega) ?_
         refine GL.move I0.mono (by conv => lhs; whnf) ?_
         refine GL.doneF ?_
         refine ⟨⟨k + 1, _, _, _, _, _, _, _⟩, (by dsimp only; omega), _, (LessS.weak (LessS.upd (LessS.upd (LessS.upd (LessS.upd (LessS.upd (LessS.upd (LessS.upd (LessS.upd (LessS.upd (LessS.upd (LessS.nil _) rfl) rfl) rfl) rfl) rfl) rfl) rfl) rfl) rfl) rfl) _), ⟨by omega, by rw [hE, drop_getD (by omega), evalGo, if_neg (by rintro (h | h | h) <;> first | exact h73 h | exact h77 h | exact h82 h)]; rfl, by omega, by simp [hss], by simp [hls]⟩, _, (congrArg (St.mk _) (effM_eq (Has.cons rfl (Has.cons rfl (Has.cons rfl (Has.cons rfl (Has.cons rfl (Has.cons rfl Has.nil))))))).symm)⟩
     ·replace h47 := of_decide_eq_false h47
      refine Wp.exitI ?_
      refine thenX.exit ?_
      refine thenX.exit ?_
      refine blockX.out ?_
      refine goOn ?_
      refine Wp.seqI ?_
      refine Wp.regI I0.mono ?_
      refine GL.move I0.mono (by conv => lhs; whnf) ?_
      refine GL.loadW I0.mono (n := 4) rfl rfl rfl rfl (by simp) rfl rfl rfl ?_
      refine GL.move I0.mono (by conv => lhs; whnf) ?_
      refine GL.call0 I0.mono rfl (Frz.aggc (by exact Frz.pures rfl) (Frz.aggc (by exact Frz.pure rfl) (Frz.aggc (by exact Frz.pure rfl) (Frz.aggn)))) (way_ok i hs _ _ (by omega) (by omega)) rfl rfl (fun _ => rfl) ?_
      refine GL.bin I0.mono rfl ?_
      refine GL.fieldAddr I0.mono (o := 3) rfl rfl rfl rfl (by conv => lhs; whnf) ?_
      refine GL.store I0.mono (n := 1) rfl rfl rfl rfl rfl rfl rfl rfl rfl rfl (Nat.le_of_ble_eq_true rfl) (by (conv => lhs; simp only [List.take_succ_cons, List.take_zero, List.drop_succ_cons, List.drop_zero, List.nil_append, List.cons_append, List.drop_nil, List.append_nil, List.take_nil, List.set_cons_zero, List.set_cons_succ, Nat.zero_add, ni, nr, nc, ns, np, ic])) (by (conv => lhs; simp only [List.take_succ_cons, List.take_zero, List.drop_succ_cons, List.drop_zero, List.nil_append, List.cons_append, List.drop_nil, List.append_nil, List.take_nil, List.set_cons_zero, List.set_cons_succ, Nat.zero_add, ni, nr, nc, ns, np, ic])) ?_
      refine GL.doneF ?_
      refine goOn ?_
      refine Wp.seqI ?_
      refine Wp.seqI ?_
      refine Wp.regI I0.mono ?_
      refine GL.fieldAddr I0.mono (o := 3) rfl rfl rfl rfl (by conv => lhs; whnf) ?_
      refine GL.load I0.mono rfl rfl rfl rfl (by simp) rfl rfl ?_
      refine GL.fieldAddr I0.mono (o := 2) rfl rfl rfl rfl (by conv => lhs; whnf) ?_
      refine GL.load I0.mono rfl rfl rfl rfl (by simp) rfl rfl ?_
      refine GL.bin I0.mono rfl ?_
      refine GL.doneF ?_
      refine goOn ?_
      refine Wp.condI rfl (fun h112 => ?_) (fun h112 => ?_)
      ·replace h112 := of_decide_eq_true h112
       refine Wp.seqI ?_
       refine Wp.regI I0.mono ?_
       refine GL.buildS I0.mono (z := [LV.nils, LV.nils, LV.int .i64 0, LV.int .i64 0]) (cs := [_, _, _, _]) (n := 4) rfl rfl rfl (EvS.nil) rfl rfl ?_
       refine GL.storeW I0.mono (n := 4) rfl rfl rfl rfl rfl rfl rfl (by conv => lhs; whnf) rfl rfl rfl ?_
       refine GL.assign I0.mono (by conv => lhs; whnf) ?_
       refine GL.doneF ?_
       refine goOn ?_
       refine Wp.retI ?_
       refine thenX.ret ?_
       refine RetX.ret ?_
       refine ⟨_, _, _, _, .cons (.cellA (n := 4) rfl rfl rfl (by simp) rfl rfl rfl (Nat.le_of_ble_eq_true rfl)) (.cons (.tmp rfl) .nil), .tup (.aggc (.aggc (by exact Exp.nils (sz := 1)) (.aggc (by exact Exp.nils (sz := 1)) (.aggc (.frz (.pure rfl)) (.aggc (.frz (.pure rfl)) .aggn)))) (.aggc (.frz (.pure rfl)) .aggn)), (by decide), by simp, ?_⟩
       first
       | (rw [eval_out (by first | exact .inl h19 | exact .inr (.inl h26) | exact .inr (.inr (by simpa using h31)))]; rfl)
       | (rw [eval_in h19 h26 (by simpa using h31) (hE.trans (by rw [drop_getD (by omega), evalGo, if_pos (by first | exact .inl h73 | exact .inr (.inl h77) | exact .inr (.inr h82))]))]; rfl)
       | (rw [eval_in h19 h26 (by simpa using h31) (hE.trans (by rw [drop_all (by omega), evalGo, if_pos (show wadd _ _ > _ from h112)]))]; rfl)
       | (rw [eval_in h19 h26 (by simpa using h31) (hE.trans (by rw [drop_all (by omega), evalGo, if_neg (show ¬ wadd _ _ > _ from h112)]))]; rfl)
      ·replace h112 := of_decide_eq_false h112
       refine Wp.skipI ?_
       refine goOn ?_
       refine Wp.seqI ?_
       refine Wp.regI I0.mono ?_
       refine GL.loadW I0.mono (n := 4) rfl rfl rfl rfl (by simp) rfl rfl rfl ?_
       refine GL.storeW I0.mono (n := 4) rfl rfl rfl rfl rfl rfl rfl (by conv => lhs; whnf) rfl rfl rfl ?_
       refine GL.assign I0.mono (by conv => lhs; whnf) ?_
       refine GL.doneF ?_
       refine goOn ?_
       refine Wp.retI ?_
       refine RetX.ret ?_
       refine ⟨_, _, _, _, .cons (.cellA (n := 4) rfl rfl rfl (by simp) rfl rfl rfl (Nat.le_of_ble_eq_true rfl)) (.cons (.tmp rfl) .nil), .tup (.aggc (.aggc (by exact Exp.slo rfl rfl rfl rfl (by rw [em_len]; omega)) (.aggc (by exact Exp.slo rfl rfl rfl rfl (by rw [em_len]; omega)) (.aggc (.frz (.pure rfl)) (.aggc (.frz (.pure rfl)) .aggn)))) (.aggc (.frz (.pure rfl)) .aggn)), (by decide), by simp, ?_⟩
       first
       | (rw [eval_out (by first | exact .inl h19 | exact .inr (.inl h26) | exact .inr (.inr (by simpa using h31)))]; rfl)
       | (rw [eval_in h19 h26 (by simpa using h31) (hE.trans (by rw [drop_getD (by omega), evalGo, if_pos (by first | exact .inl h73 | exact .inr (.inl h77) | exact .inr (.inr h82))]))]; rfl)
       | (rw [eval_in h19 h26 (by simpa using h31) (hE.trans (by rw [drop_all (by omega), evalGo, if_pos (show wadd _ _ > _ from h112)]))]; rfl)
       | (rw [eval_in h19 h26 (by simpa using h31) (hE.trans (by rw [drop_all (by omega), evalGo, if_neg (show ¬ wadd _ _ > _ from h112)]))]; rfl)


theorem eval_ok (i : Inst) (hs : i.Short) (car : Int) (l : List Int) (hl : Short l) : CallsV Try.prog 23 [ei i, .int .i64 car, .sl (em ni l)] (tripR (eval i car l)) := (eval_own i hs car l hl).freeze rfl

end Go.Proofs.Ytpepcfombibpeaa
