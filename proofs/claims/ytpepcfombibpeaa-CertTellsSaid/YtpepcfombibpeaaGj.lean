/- Proofs that routes can be driven: made, and looked at; walked. -/
import Derived.Test.YtpepcfombibpeaaFb
import Derived.Test.YtpepcfombibpeaaMvC
import Derived.KernelRfl
set_option linter.unusedVariables false
set_option linter.unusedSimpArgs false
namespace Go.Proofs.Ytpepcfombibpeaa
open Go.Proofs Mv


theorem nbt {b : Bool} (h : (!b) = false) : b = true := by simpa using h
theorem nbf {b : Bool} (h : (!b) = true) : b = false := by simpa using h
theorem flat_tripO (o : Option Trip) : FlatI (tripO o) := .tup (.aggc (.aggc (.slo (flat_ni _)) (.aggc (.slo (flat_ni _)) (.aggc (.sca rfl) (.aggc (.sca rfl) .aggn)))) (.aggc (.sca rfl) .aggn))
theorem imp_tripO (m : Mem) (d : Nat) (o : Option Trip) : impT m d (tripO o) = (.tup [.agg [.own d (genAt m d) 0 (o.getD zeroT).t0.length none, .own (d + 1) (genAt m (d + 1)) 0 (o.getD zeroT).t1.length none, .int .i64 (o.getD zeroT).t2, .int .i64 (o.getD zeroT).t3], .bool o.isSome], [(d, ⟨genAt m d, false, .slc, 1, em ni (o.getD zeroT).t0⟩), (d + 1, ⟨genAt m (d + 1), false, .slc, 1, em ni (o.getD zeroT).t1⟩)]) := by
  simp [tripO, impT, impVs, impV, impCs, impC, em_len]

set_option maxRecDepth 100000 in
set_option maxHeartbeats 4000000 in
theorem equal_ok (l l' : List Int) (hl : Short l) (hl' : l'.length < 9223372036854775808) : CallsV Try.prog 79 [.sl (em ni l), .sl (em ni l')] (.bool (decide (l = l'))) := by
  refine CallsR.intro (I0.sound _) mix Try.func79 rfl rfl (by simp [Try.f79]) (by kernel_rfl) (nb := 0) ?_
  unfold Try.f79
  refine Wp.seqI ?_
  refine Wp.regI I0.mono ?_
  refine GL.assign I0.mono (by conv => lhs; whnf) ?_
  refine GL.doneF ?_
  refine goOn ?_
  refine Wp.seqI ?_
  refine Wp.seqI ?_
  refine Wp.regI I0.mono ?_
  refine GL.move I0.mono (by conv => lhs; whnf) ?_
  refine GL.lenF I0.mono rfl rfl (em_len _ _) ?_
  refine GL.move I0.mono (by conv => lhs; whnf) ?_
  refine GL.lenF I0.mono rfl rfl (em_len _ _) ?_
  refine GL.bin I0.mono rfl ?_
  refine GL.doneF ?_
  refine goOn ?_
  refine Wp.condI rfl (fun h10 => ?_) (fun h10 => ?_)
  ·replace h10 := bne_true h10
   unfold Short at hl
   refine Wp.seqI ?_
   refine Wp.regI I0.mono ?_
   refine GL.assign I0.mono (by conv => lhs; whnf) ?_
   refine GL.doneF ?_
   refine goOn ?_
   refine Wp.retI ?_
   refine thenX.ret ?_
   refine RetX.ret ?_
   refine ⟨_, _, _, _, .cons (.tmp rfl) .nil, .frz (.pure rfl), List.nodup_nil, by simp, ?_⟩
   show LV.bool _ = LV.bool _
   congr 1
   symm
   (refine decide_eq_false (fun h => ?_); subst h; simp at h10; done)
  ·replace h10 := bne_false h10
   unfold Short at hl
   have h10e : l.length = l'.length := by first | omega | (simp at h10; omega)
   refine Wp.skipI ?_
   refine goOn ?_
   refine Wp.seqI ?_
   refine Wp.seqI ?_
   refine Wp.regI I0.mono ?_
   refine GL.move I0.mono (by conv => lhs; whnf) ?_
   refine GL.lenF I0.mono rfl rfl (em_len _ _) ?_
   refine GL.move I0.mono (by conv => lhs; whnf) ?_
   refine GL.doneF ?_
   refine goOn ?_
   refine Wp.blockI ?_
   refine Wp.loopI I0.mono (α := Nat) (fun i st => (i ≤ l.length ∧ ∀ j, j < i → l.getD j default = l'.getD j default) ∧ ∃ m0, st = ⟨(updS (updS (updS (updS (fun _ => LV.undef) 0 (.sl (em ni l))) 1 (.sl (em ni l'))) 12 (.int .i64 (l.length : Int))) 13 (.int .i64 (i : Int))), effM m0 []⟩) (fun i => l.length - i) 0 ⟨_, (LessS.weak (LessS.upd (LessS.upd (LessS.upd (LessS.upd (LessS.nil _) rfl) rfl) rfl) rfl) _), ⟨by omega, fun j h => by omega⟩, _, (congrArg (St.mk _) (effM_eq Has.nil).symm)⟩ ?_
   rintro i _ ⟨⟨hi, hA⟩, m0, rfl⟩
   refine Wp.seqI ?_
   refine Wp.regI I0.mono ?_
   refine GL.bin I0.mono rfl ?_
   refine GL.doneF ?_
   refine goOn ?_
   refine Wp.seqI ?_
   refine Wp.condI rfl (fun h14 => ?_) (fun h14 => ?_)
   ·replace h14 := of_decide_eq_true h14
    refine Wp.skipI ?_
    refine goOn ?_
    refine Wp.seqI ?_
    refine Wp.blockI ?_
    refine Wp.seqI ?_
    refine Wp.regI I0.mono ?_
    refine GL.move I0.mono (by conv => lhs; whnf) ?_
    refine GL.assign I0.mono (by conv => lhs; whnf) ?_
    refine GL.doneF ?_
    refine goOn ?_
    refine Wp.seqI ?_
    refine Wp.regD ?_
    refine GL.move I0.mono (by conv => lhs; whnf) ?_
    refine GL.move I0.mono (by conv => lhs; whnf) ?_
    refine GL.indexAddrF I0.mono (sz := 1) rfl rfl rfl rfl (by omega) (by (rw [em_len]; omega)) (by intro e he; obtain ⟨a, -, rfl⟩ := List.mem_map.1 he; rfl) (by with_reducible exact Int.toNat_natCast _) ?_
    refine GL.loadF I0.mono rfl rfl (em_get (by omega)) rfl ?_
    refine GL.move I0.mono (by conv => lhs; whnf) ?_
    refine GL.move I0.mono (by conv => lhs; whnf) ?_
    refine GL.indexAddrF I0.mono (sz := 1) rfl rfl rfl rfl (by omega) (by (rw [em_len]; omega)) (by intro e he; obtain ⟨a, -, rfl⟩ := List.mem_map.1 he; rfl) (by with_reducible exact Int.toNat_natCast _) ?_
    refine GL.loadF I0.mono rfl rfl (em_get (by omega)) rfl ?_
    refine GL.bin I0.mono rfl ?_
    refine GL.doneT (by kernel_rfl) ?_
    refine goOn ?_
    refine Wp.condI rfl (fun h24 => ?_) (fun h24 => ?_)
    ·replace h24 := bne_true h24
     refine Wp.seqI ?_
     refine Wp.regI I0.mono ?_
     refine GL.assign I0.mono (by conv => lhs; whnf) ?_
     refine GL.doneF ?_
     refine goOn ?_
     refine Wp.retI ?_
     refine blockX.ret ?_
     refine thenX.ret ?_
     refine thenX.ret ?_
     refine blockX.ret ?_
     refine thenX.ret ?_
     refine RetX.ret ?_
     refine ⟨_, _, _, _, .cons (.tmp rfl) .nil, .frz (.pure rfl), List.nodup_nil, by simp, ?_⟩
     show LV.bool _ = LV.bool _
     congr 1
     symm
     (refine decide_eq_false (fun h => ?_); subst h; simp at h24; done)
    ·replace h24 := bne_false h24
     refine Wp.skipI ?_
     refine blockX.normal ?_
     refine goOn ?_
     refine Wp.regI I0.mono ?_
     refine GL.addR I0.mono rfl rfl (by omega) ?_
     refine GL.move I0.mono (by conv => lhs; whnf) ?_
     refine GL.doneF ?_
     refine ⟨i + 1, (by dsimp only; omega), _, (LessS.weak (LessS.upd (LessS.upd (LessS.upd (LessS.upd (LessS.nil _) rfl) rfl) rfl) rfl) _), ⟨by omega, fun j h => by
           by_cases hj : j = i
           · subst hj; simpa using h24
           · exact hA j (by omega)⟩, _, (congrArg (St.mk _) (effM_eq Has.nil).symm)⟩
   ·replace h14 := of_decide_eq_false h14
    refine Wp.exitI ?_
    refine thenX.exit ?_
    refine thenX.exit ?_
    refine blockX.out ?_
    refine goOn ?_
    refine Wp.seqI ?_
    refine Wp.regI I0.mono ?_
    refine GL.assign I0.mono (by conv => lhs; whnf) ?_
    refine GL.doneF ?_
    refine goOn ?_
    refine Wp.retI ?_
    refine RetX.ret ?_
    refine ⟨_, _, _, _, .cons (.tmp rfl) .nil, .frz (.pure rfl), List.nodup_nil, by simp, ?_⟩
    show LV.bool _ = LV.bool _
    congr 1
    symm
    (exact decide_eq_true (same_ext h10e fun j hj => hA j (by omega)))

set_option maxRecDepth 100000 in
set_option maxHeartbeats 4000000 in
theorem clone0_ok : CallsV Try.prog 78 [.sl (em ni [])] (.slo 1 (em ni [])) := by
  refine CallsR.intro (I0.sound _) mix Try.func78 rfl rfl (by simp [Try.f78]) (by kernel_rfl) (nb := 0) ?_
  unfold Try.f78
  refine Wp.seqI ?_
  refine Wp.regI I0.mono ?_
  refine GL.assign I0.mono (by conv => lhs; whnf) ?_
  refine GL.doneF ?_
  refine goOn ?_
  refine Wp.seqI ?_
  refine Wp.seqI ?_
  refine Wp.regI I0.mono ?_
  refine GL.move I0.mono (by conv => lhs; whnf) ?_
  refine GL.nilSl I0.mono rfl rfl rfl ?_
  intro bn hbn
  refine GL.doneF ?_
  refine goOn ?_
  refine Wp.condI rfl (fun h4 => ?_) (fun h4 => ?_)
  ·skip
   refine Wp.seqI ?_
   refine Wp.regI I0.mono ?_
   refine GL.assign I0.mono (by conv => lhs; whnf) ?_
   refine GL.doneF ?_
   refine goOn ?_
   refine Wp.retI ?_
   refine thenX.ret ?_
   refine RetX.ret ?_
   exact ⟨_, _, _, _, .cons (.tmp rfl) .nil, .nils, List.nodup_nil, by simp, rfl⟩
  ·skip
   refine Wp.skipI ?_
   refine goOn ?_
   refine Wp.seqI ?_
   refine Wp.regI I0.mono ?_
   refine GL.buildSlice00 I0.mono rfl rfl (by decide) ?_
   intro g5
   refine GL.move I0.mono (by conv => lhs; whnf) ?_
   refine GL.appendE I0.mono rfl rfl rfl rfl rfl rfl (show LV.sl (em ni []) = .sl [] from rfl) ?_
   refine GL.assign I0.mono (by conv => lhs; whnf) ?_
   refine GL.doneF ?_
   refine goOn ?_
   refine Wp.retI ?_
   refine RetX.ret ?_
   exact ⟨_, _, _, _, .cons (.tmp rfl) .nil, .slo rfl rfl rfl rfl rfl, by simp, by simp, rfl⟩

set_option maxRecDepth 100000 in
set_option maxHeartbeats 4000000 in
theorem clone1_ok (l : List Int) (h0 : 0 < l.length) (hl : l.length ≤ 4294967296) : CallsV Try.prog 78 [.sl (em ni l)] (.slo 1 (em ni l)) := by
  refine CallsR.intro (I0.sound _) mix Try.func78 rfl rfl (by simp [Try.f78]) (by kernel_rfl) (nb := 0) ?_
  unfold Try.f78
  refine Wp.seqI ?_
  refine Wp.regI I0.mono ?_
  refine GL.assign I0.mono (by conv => lhs; whnf) ?_
  refine GL.doneF ?_
  refine goOn ?_
  refine Wp.seqI ?_
  refine Wp.seqI ?_
  refine Wp.regI I0.mono ?_
  refine GL.move I0.mono (by conv => lhs; whnf) ?_
  refine GL.nilSl I0.mono rfl rfl rfl ?_
  intro bn hbn
  refine GL.doneF ?_
  refine goOn ?_
  refine Wp.condI rfl (fun h4 => ?_) (fun h4 => ?_)
  ·skip
   (have := congrArg List.length (hbn h4); rw [em_len] at this; rw [this] at h0; exact absurd h0 (by decide))
  ·skip
   refine Wp.skipI ?_
   refine goOn ?_
   refine Wp.seqI ?_
   refine Wp.regI I0.mono ?_
   refine GL.buildSlice00 I0.mono rfl rfl (by decide) ?_
   intro g5
   refine GL.move I0.mono (by conv => lhs; whnf) ?_
   refine GL.appendO I0.mono (f := ni) (l := []) (l2 := l) (n2 := l.length) (sz := 1) (z := [.int .i64 0]) rfl rfl rfl rfl rfl (by decide) (Nat.le_of_ble_eq_true rfl) rfl rfl rfl rfl rfl rfl rfl rfl rfl (fun _ => rfl) (fun _ => rfl) rfl h0 (by omega) ?_
   refine GL.assign I0.mono (by conv => lhs; whnf) ?_
   refine GL.doneF ?_
   refine goOn ?_
   refine Wp.retI ?_
   refine RetX.ret ?_
   exact ⟨_, _, _, _, .cons (.tmp rfl) .nil, .slo rfl rfl rfl rfl (by rw [em_len]; simp), by simp, by simp, rfl⟩


theorem clone_own (l : List Int) (hl : l.length ≤ 4294967296) : CallsV Try.prog 78 [.sl (em ni l)] (.slo 1 (em ni l)) := by
  by_cases h0 : 0 < l.length
  · exact clone1_ok l h0 hl
  · have : l = [] := List.eq_nil_of_length_eq_zero (by omega)
    subst this
    exact clone0_ok

set_option maxRecDepth 100000 in
set_option maxHeartbeats 4000000 in
theorem make_own (i : Inst) (hs : i.Short) (c : Int) (l : List Int) (hl : Short l) : CallsV Try.prog 58 [ei i, .int .i64 c, .sl (em ni l)] (certO (certOf i c l)) := by
  refine CallsR.intro (I0.sound _) mix Try.func58 rfl rfl (by simp [Try.f58]) (by kernel_rfl) (nb := 0) ?_
  unfold Try.f58
  refine Wp.seqI ?_
  refine Wp.regI I0.mono ?_
  refine GL.box I0.mono (by conv => lhs; whnf) rfl (n := 4) rfl rfl ?_
  intro g3
  refine GL.alloc I0.mono (cs := [LV.int .i64 0, LV.nils, LV.nils, LV.nils, LV.int .i64 0]) rfl rfl ?_
  intro g6
  refine GL.assign I0.mono (by conv => lhs; whnf) ?_
  refine GL.doneF ?_
  refine goOn ?_
  refine Wp.seqI ?_
  refine Wp.regI I0.mono ?_
  refine GL.loadW I0.mono (n := 4) rfl rfl rfl rfl (by simp) rfl rfl rfl ?_
  refine GL.move I0.mono (by conv => lhs; whnf) ?_
  refine GL.move I0.mono (by conv => lhs; whnf) ?_
  refine GL.callFl I0.mono rfl (Frz.aggc (Frz.aggc (by exact Frz.pure rfl) (Frz.aggc (by exact Frz.pure rfl) (Frz.aggc (by exact Frz.pure rfl) (Frz.aggc (by exact Frz.pure rfl) Frz.aggn)))) (Frz.aggc (Frz.pure rfl) (Frz.aggc (Frz.pure rfl) Frz.aggn))) (eval_own i hs c l hl) (flat_tripO _) rfl (imp_tripO _ _ _) ?_
  refine GL.move I0.mono (by conv => lhs; whnf) ?_
  refine GL.extract I0.mono rfl rfl ?_
  refine GL.extract I0.mono rfl rfl ?_
  refine GL.alloc I0.mono (cs := [LV.nils, LV.nils, LV.int .i64 0, LV.int .i64 0]) rfl rfl ?_
  intro g8
  refine GL.storeW I0.mono (n := 4) rfl rfl rfl rfl rfl rfl rfl (by conv => lhs; whnf) rfl rfl rfl ?_
  refine GL.assign I0.mono (by conv => lhs; whnf) ?_
  refine GL.doneF ?_
  refine goOn ?_
  refine Wp.seqI ?_
  refine Wp.seqI ?_
  refine Wp.regI I0.mono ?_
  refine GL.move I0.mono (by conv => lhs; whnf) ?_
  refine GL.un I0.mono rfl ?_
  refine GL.doneF ?_
  refine goOn ?_
  refine Wp.condI rfl (fun h18 => ?_) (fun h18 => ?_)
  ·skip
   refine Wp.seqI ?_
   refine Wp.regI I0.mono ?_
   refine GL.buildS I0.mono (z := [LV.int .i64 0, LV.nils, LV.nils, LV.nils, LV.int .i64 0]) (cs := [_, _, _, _, _]) (n := 5) rfl rfl rfl (EvS.nil) rfl rfl ?_
   refine GL.storeW I0.mono (n := 5) rfl rfl rfl rfl rfl rfl rfl (by conv => lhs; whnf) rfl rfl rfl ?_
   refine GL.assign I0.mono (by conv => lhs; whnf) ?_
   refine GL.doneF ?_
   refine goOn ?_
   refine Wp.retI ?_
   refine thenX.ret ?_
   refine RetX.ret ?_
   refine ⟨_, _, _, _, .cons (.cellA (n := 5) rfl rfl rfl (by simp) rfl rfl rfl (Nat.le_of_ble_eq_true rfl)) (.cons (.tmp rfl) .nil), .tup (.aggc (.aggc (.frz (.pure rfl)) (.aggc (by exact Exp.nils (sz := 1)) (.aggc (by exact Exp.nils (sz := 1)) (.aggc (by exact Exp.nils (sz := 1)) (.aggc (.frz (.pure rfl)) .aggn))))) (.aggc (.frz (.pure rfl)) .aggn)), (by exact List.nodup_nil), by simp, ?_⟩
   (have hE := Option.not_isSome_iff_eq_none.1 (fun h => by rw [nbf h18] at h; cases h); rw [certOf, hE]; rfl)
  ·skip
   refine Wp.skipI ?_
   refine goOn ?_
   refine Wp.seqI ?_
   refine Wp.regD ?_
   refine GL.move I0.mono (by conv => lhs; whnf) ?_
   refine GL.move I0.mono (by conv => lhs; whnf) ?_
   refine GL.callSlo I0.mono (n := l.length) rfl (Frz.aggc (Frz.pure rfl) Frz.aggn) (clone_own l (by unfold Short at hl; omega)) rfl (em_len _ _) ?_
   intro g22
   refine GL.fieldAddr I0.mono (o := 0) rfl rfl rfl rfl (by conv => lhs; whnf) ?_
   refine GL.load I0.mono rfl rfl rfl rfl (by simp) rfl rfl ?_
   refine GL.fieldAddr I0.mono (o := 1) rfl rfl rfl rfl (by conv => lhs; whnf) ?_
   refine GL.load I0.mono rfl rfl rfl rfl (by simp) rfl rfl ?_
   refine GL.fieldAddr I0.mono (o := 2) rfl rfl rfl rfl (by conv => lhs; whnf) ?_
   refine GL.load I0.mono rfl rfl rfl rfl (by simp) rfl rfl ?_
   refine GL.buildS I0.mono (z := [LV.int .i64 0, LV.nils, LV.nils, LV.nils, LV.int .i64 0]) (cs := [_, _, _, _, _]) (n := 5) rfl rfl rfl (EvS.cons (by conv => lhs; whnf) (EvS.cons (by conv => lhs; whnf) (EvS.cons (by conv => lhs; whnf) (EvS.cons (by conv => lhs; whnf) (EvS.cons (by conv => lhs; whnf) (EvS.nil)))))) rfl rfl ?_
   refine GL.storeW I0.mono (n := 5) rfl rfl rfl rfl rfl rfl rfl (by conv => lhs; whnf) rfl rfl rfl ?_
   refine GL.assign I0.mono (by conv => lhs; whnf) ?_
   refine GL.doneT (by kernel_rfl) ?_
   refine goOn ?_
   refine Wp.retI ?_
   refine RetX.ret ?_
   refine ⟨_, _, _, _, .cons (.cellA (n := 5) rfl rfl rfl (by simp) rfl rfl rfl (Nat.le_of_ble_eq_true rfl)) (.cons (.tmp rfl) .nil), .tup (.aggc (.aggc (.frz (.pure rfl)) (.aggc (by exact Exp.slo rfl rfl rfl rfl (by (rw [em_len]; simp))) (.aggc (by exact Exp.slo rfl rfl rfl rfl (by (rw [em_len]; simp))) (.aggc (by exact Exp.slo rfl rfl rfl rfl (by (rw [em_len]; simp))) (.aggc (.frz (.pure rfl)) .aggn))))) (.aggc (.frz (.pure rfl)) .aggn)), (by decide), by simp, ?_⟩
   (obtain ⟨T, hT⟩ := Option.isSome_iff_exists.1 (nbt h18); rw [certOf, hT]; rfl)


theorem make_ok (i : Inst) (hs : i.Short) (c : Int) (l : List Int) (hl : Short l) : CallsV Try.prog 58 [ei i, .int .i64 c, .sl (em ni l)] (certR (certOf i c l)) := (make_own i hs c l hl).freeze rfl

set_option maxRecDepth 100000 in
set_option maxHeartbeats 4000000 in
theorem right_is (i : Inst) (hs : i.Short) (c : Cert) (hl : Short c.stops) (ha : c.arrive.length < 9223372036854775808) (hb : c.load.length < 9223372036854775808) (hT : ∀ T, eval i c.car c.stops = some T → Short T.t0 ∧ Short T.t1) : CallsV Try.prog 59 [ei i, ec c] (.bool (right i c)) := by
  refine CallsR.intro (I0.sound _) mix Try.func59 rfl rfl (by simp [Try.f59]) (by kernel_rfl) (nb := 0) ?_
  unfold Try.f59
  refine Wp.seqI ?_
  refine Wp.regI I0.mono ?_
  refine GL.box I0.mono (by conv => lhs; whnf) rfl (n := 4) rfl rfl ?_
  intro g2
  refine GL.box I0.mono (by conv => lhs; whnf) rfl (n := 5) rfl rfl ?_
  intro g3
  refine GL.assign I0.mono (by conv => lhs; whnf) ?_
  refine GL.doneF ?_
  refine goOn ?_
  refine Wp.seqI ?_
  refine Wp.regI I0.mono ?_
  refine GL.loadW I0.mono (n := 4) rfl rfl rfl rfl (by simp) rfl rfl rfl ?_
  refine GL.fieldAddr I0.mono (o := 0) rfl rfl rfl rfl (by conv => lhs; whnf) ?_
  refine GL.load I0.mono rfl rfl rfl rfl (by simp) rfl rfl ?_
  refine GL.fieldAddr I0.mono (o := 1) rfl rfl rfl rfl (by conv => lhs; whnf) ?_
  refine GL.load I0.mono rfl rfl rfl rfl (by simp) rfl rfl ?_
  refine GL.call0 I0.mono rfl (Frz.aggc (by exact Frz.pures rfl) (Frz.aggc (by exact Frz.pure rfl) (Frz.aggc (by exact Frz.pure rfl) (Frz.aggn)))) (make_ok i hs c.car c.stops hl) rfl rfl (fun _ => rfl) ?_
  refine GL.move I0.mono (by conv => lhs; whnf) ?_
  refine GL.extract I0.mono rfl rfl ?_
  refine GL.extract I0.mono rfl rfl ?_
  refine GL.alloc I0.mono (cs := [LV.int .i64 0, LV.nils, LV.nils, LV.nils, LV.int .i64 0]) rfl rfl ?_
  intro g5
  refine GL.storeW I0.mono (n := 5) rfl rfl rfl rfl rfl rfl rfl (by conv => lhs; whnf) rfl rfl rfl ?_
  refine GL.assign I0.mono (by conv => lhs; whnf) ?_
  refine GL.doneF ?_
  refine goOn ?_
  refine Wp.seqI ?_
  refine Wp.regI I0.mono ?_
  refine GL.move I0.mono (by conv => lhs; whnf) ?_
  refine GL.move I0.mono (by conv => lhs; whnf) ?_
  refine GL.splitAt 17 rfl (fun h17 => ?_) (fun h17 => ?_)
  ·rw [h17]
   obtain ⟨hT0, hT1⟩ : Short ((certOf i c.car c.stops).getD zeroC).arrive ∧ Short ((certOf i c.car c.stops).getD zeroC).load := by
     obtain ⟨K, hK⟩ := Option.isSome_iff_exists.1 h17
     unfold certOf at hK ⊢
     cases hE : eval i c.car c.stops with
     | none => rw [hE] at hK; cases hK
     | some T => exact hT T hE
   refine GL.guardT rfl ?_
   refine GL.fieldAddr I0.mono (o := 2) rfl rfl rfl rfl (by conv => lhs; whnf) ?_
   refine GL.guardT rfl ?_
   refine GL.load I0.mono rfl rfl rfl rfl (by simp) rfl rfl ?_
   refine GL.guardT rfl ?_
   refine GL.fieldAddr I0.mono (o := 2) rfl rfl rfl rfl (by conv => lhs; whnf) ?_
   refine GL.guardT rfl ?_
   refine GL.load I0.mono rfl rfl rfl rfl (by simp) rfl rfl ?_
   refine GL.guardT rfl ?_
   refine GL.call0 I0.mono rfl (Frz.aggc (by exact Frz.pure rfl) (Frz.aggc (by exact Frz.pure rfl) (Frz.aggn))) (equal_ok _ _ hT0 ha) rfl rfl (fun _ => rfl) ?_
   refine GL.pick I0.mono rfl (by conv => lhs; whnf) ?_
   refine GL.move I0.mono (by conv => lhs; whnf) ?_
   refine GL.splitAt 24 rfl (fun h24 => ?_) (fun h24 => ?_)
   ·rw [h24]
    skip
    refine GL.guardT rfl ?_
    refine GL.fieldAddr I0.mono (o := 3) rfl rfl rfl rfl (by conv => lhs; whnf) ?_
    refine GL.guardT rfl ?_
    refine GL.load I0.mono rfl rfl rfl rfl (by simp) rfl rfl ?_
    refine GL.guardT rfl ?_
    refine GL.fieldAddr I0.mono (o := 3) rfl rfl rfl rfl (by conv => lhs; whnf) ?_
    refine GL.guardT rfl ?_
    refine GL.load I0.mono rfl rfl rfl rfl (by simp) rfl rfl ?_
    refine GL.guardT rfl ?_
    refine GL.call0 I0.mono rfl (Frz.aggc (by exact Frz.pure rfl) (Frz.aggc (by exact Frz.pure rfl) (Frz.aggn))) (equal_ok _ _ hT1 hb) rfl rfl (fun _ => rfl) ?_
    refine GL.pick I0.mono rfl (by conv => lhs; whnf) ?_
    refine GL.move I0.mono (by conv => lhs; whnf) ?_
    refine GL.splitAt 31 rfl (fun h31 => ?_) (fun h31 => ?_)
    ·rw [h31]
     skip
     refine GL.guardT rfl ?_
     refine GL.fieldAddr I0.mono (o := 4) rfl rfl rfl rfl (by conv => lhs; whnf) ?_
     refine GL.guardT rfl ?_
     refine GL.load I0.mono rfl rfl rfl rfl (by simp) rfl rfl ?_
     refine GL.guardT rfl ?_
     refine GL.fieldAddr I0.mono (o := 4) rfl rfl rfl rfl (by conv => lhs; whnf) ?_
     refine GL.guardT rfl ?_
     refine GL.load I0.mono rfl rfl rfl rfl (by simp) rfl rfl ?_
     refine GL.guardT rfl ?_
     refine GL.bin I0.mono rfl ?_
     refine GL.pick I0.mono rfl (by conv => lhs; whnf) ?_
     refine GL.assign I0.mono (by conv => lhs; whnf) ?_
     refine GL.doneF ?_
     refine goOn ?_
     refine Wp.retI ?_
     refine RetX.ret ?_
     refine ⟨_, _, _, _, .cons (.tmp rfl) .nil, .frz (.pure rfl), List.nodup_nil, by simp, ?_⟩
     show LV.bool _ = LV.bool _
     congr 1
     unfold right certOf at *
     cases hE : eval i c.car c.stops with
     | none => (simp [hE] at *; done)
     | some T => (simp [hE] at *; all_goals first | (simp [*]; done) | (by_cases hq : T.t2 = c.cost <;> simp_all; done))
    ·rw [h31]
     skip
     refine GL.guardF rfl ?_
     refine GL.guardF rfl ?_
     refine GL.guardF rfl ?_
     refine GL.guardF rfl ?_
     refine GL.guardF rfl ?_
     refine GL.pick I0.mono rfl (by conv => lhs; whnf) ?_
     refine GL.assign I0.mono (by conv => lhs; whnf) ?_
     refine GL.doneF ?_
     refine goOn ?_
     refine Wp.retI ?_
     refine RetX.ret ?_
     refine ⟨_, _, _, _, .cons (.tmp rfl) .nil, .frz (.pure rfl), List.nodup_nil, by simp, ?_⟩
     show LV.bool _ = LV.bool _
     congr 1
     unfold right certOf at *
     cases hE : eval i c.car c.stops with
     | none => (simp [hE] at *; done)
     | some T => (simp [hE] at *; all_goals first | (simp [*]; done) | (by_cases hq : T.t2 = c.cost <;> simp_all; done))
   ·rw [h24]
    skip
    refine GL.guardF rfl ?_
    refine GL.guardF rfl ?_
    refine GL.guardF rfl ?_
    refine GL.guardF rfl ?_
    refine GL.guardF rfl ?_
    refine GL.pick I0.mono rfl (by conv => lhs; whnf) ?_
    refine GL.move I0.mono (by conv => lhs; whnf) ?_
    refine GL.guardF rfl ?_
    refine GL.guardF rfl ?_
    refine GL.guardF rfl ?_
    refine GL.guardF rfl ?_
    refine GL.guardF rfl ?_
    refine GL.pick I0.mono rfl (by conv => lhs; whnf) ?_
    refine GL.assign I0.mono (by conv => lhs; whnf) ?_
    refine GL.doneF ?_
    refine goOn ?_
    refine Wp.retI ?_
    refine RetX.ret ?_
    refine ⟨_, _, _, _, .cons (.tmp rfl) .nil, .frz (.pure rfl), List.nodup_nil, by simp, ?_⟩
    show LV.bool _ = LV.bool _
    congr 1
    unfold right certOf at *
    cases hE : eval i c.car c.stops with
    | none => (simp [hE] at *; done)
    | some T => (simp [hE] at *; all_goals first | (simp [*]; done) | (by_cases hq : T.t2 = c.cost <;> simp_all; done))
  ·rw [h17]
   skip
   refine GL.guardF rfl ?_
   refine GL.guardF rfl ?_
   refine GL.guardF rfl ?_
   refine GL.guardF rfl ?_
   refine GL.guardF rfl ?_
   refine GL.pick I0.mono rfl (by conv => lhs; whnf) ?_
   refine GL.move I0.mono (by conv => lhs; whnf) ?_
   refine GL.guardF rfl ?_
   refine GL.guardF rfl ?_
   refine GL.guardF rfl ?_
   refine GL.guardF rfl ?_
   refine GL.guardF rfl ?_
   refine GL.pick I0.mono rfl (by conv => lhs; whnf) ?_
   refine GL.move I0.mono (by conv => lhs; whnf) ?_
   refine GL.guardF rfl ?_
   refine GL.guardF rfl ?_
   refine GL.guardF rfl ?_
   refine GL.guardF rfl ?_
   refine GL.guardF rfl ?_
   refine GL.pick I0.mono rfl (by conv => lhs; whnf) ?_
   refine GL.assign I0.mono (by conv => lhs; whnf) ?_
   refine GL.doneF ?_
   refine goOn ?_
   refine Wp.retI ?_
   refine RetX.ret ?_
   refine ⟨_, _, _, _, .cons (.tmp rfl) .nil, .frz (.pure rfl), List.nodup_nil, by simp, ?_⟩
   show LV.bool _ = LV.bool _
   congr 1
   unfold right certOf at *
   cases hE : eval i c.car c.stops with
   | none => (simp [hE] at *; done)
   | some T => (simp [hE] at *; all_goals first | (simp [*]; done) | (by_cases hq : T.t2 = c.cost <;> simp_all; done))


def wakeI : Inst := ⟨[⟨0, 0, 5⟩], [], [], [[0]]⟩
theorem short_wi : wakeI.Short := ⟨by unfold Short; decide, by unfold Short; decide, by unfold Short; decide, by unfold Short; decide, by show ∀ r ∈ _, List.length r < 1073741824; decide⟩
theorem wr (c : Cert) (b : Bool) (hs : c.stops = []) (ha : c.arrive = []) (hl : c.load = []) (h : right wakeI c = b) : CallsV Try.prog 59 [ei wakeI, ec c] (.bool b) := by
  rw [← h]
  refine right_is wakeI short_wi c (by rw [hs]; unfold Short; decide) (by rw [ha]; decide) (by rw [hl]; decide) fun T hT => ?_
  rw [hs] at hT
  unfold eval at hT
  split at hT
  · cases hT
  · obtain ⟨r, h1, h2⟩ := Option.map_eq_some_iff.1 hT
    unfold evalGo at h1
    split at h1
    · cases h1
    · injection h1 with h1
      subst h1 h2
      exact ⟨by show List.length ([] : List Int) < 1073741824; decide, by show List.length ([] : List Int) < 1073741824; decide⟩

set_option maxRecDepth 100000 in
set_option maxHeartbeats 4000000 in
theorem wakes11_ok : CallsV Try.prog 60 [] (.bool true) := by
  refine CallsR.intro (I0.sound _) mix Try.func60 rfl rfl (by simp [Try.f60]) (by kernel_rfl) (nb := 0) ?_
  unfold Try.f60
  refine Wp.seqI ?_
  refine Wp.regI I0.mono ?_
  refine GL.assign I0.mono (by conv => lhs; whnf) ?_
  refine GL.doneF ?_
  refine goOn ?_
  refine Wp.seqI ?_
  refine Wp.regI I0.mono ?_
  refine GL.buildS I0.mono (z := [LV.int .i64 0, LV.int .i64 0, LV.int .i64 0]) (cs := [_, _, _]) (n := 3) rfl rfl rfl (EvS.cons (by conv => lhs; whnf) (EvS.nil)) rfl rfl ?_
  refine GL.buildSlice0 I0.mono (sz := 3) (z := [LV.int .i64 0, LV.int .i64 0, LV.int .i64 0]) (es := em nc [⟨0, 0, 5⟩]) rfl rfl rfl rfl (by decide) (by decide) (by decide) (FrzP.cons (S := []) (T := []) (Frz.pures rfl) rfl (by decide) rfl (FrzP.nil)) rfl ?_
  intro g3
  refine GL.buildSlice0 I0.mono (sz := 1) (z := [LV.int .i64 0]) (es := em ni [0]) rfl rfl rfl rfl (by decide) (by decide) (by decide) (FrzP.cons (S := []) (T := []) (Frz.aggc (S := []) (T := []) (Frz.pure rfl) Frz.aggn) rfl (by decide) rfl (FrzP.nil)) rfl ?_
  intro g4
  refine GL.buildSliceM I0.mono (sz := 1) (z := [LV.nils]) (es := em nr [[0]]) rfl rfl rfl rfl (by decide) (by decide) (by decide) (FrzP.cons (Frz.aggc (by exact Frz.whole rfl rfl rfl rfl (by exact em_len _ _)) Frz.aggn) rfl (by decide) rfl (FrzP.nil)) rfl rfl ?_
  intro g5
  refine GL.buildS I0.mono (z := [LV.nils, LV.nils, LV.nils, LV.nils]) (cs := [_, _, _, _]) (n := 4) rfl rfl rfl (EvS.cons (by conv => lhs; whnf) (EvS.cons (by conv => lhs; whnf) (EvS.nil))) rfl rfl ?_
  refine GL.alloc I0.mono (cs := [LV.nils, LV.nils, LV.nils, LV.nils]) rfl rfl ?_
  intro g1
  refine GL.storeW I0.mono (n := 4) rfl rfl rfl rfl rfl rfl rfl (by conv => lhs; whnf) rfl rfl rfl ?_
  refine GL.doneF ?_
  refine goOn ?_
  refine Wp.seqI ?_
  refine Wp.regI I0.mono ?_
  refine GL.loadW I0.mono (n := 4) rfl rfl rfl rfl (by simp) rfl rfl rfl ?_
  refine GL.buildS I0.mono (z := [LV.int .i64 0, LV.nils, LV.nils, LV.nils, LV.int .i64 0]) (cs := [_, _, _, _, _]) (n := 5) rfl rfl rfl (EvS.nil) rfl rfl ?_
  refine GL.callM0 I0.mono rfl (Frz.aggc (by exact (Frz.aggc (by exact Frz.whole rfl rfl rfl rfl (by exact em_len _ _)) (Frz.aggc (by exact Frz.nils) (Frz.aggc (by exact Frz.nils) (Frz.aggc (by exact Frz.whole rfl rfl rfl rfl (by exact em_len _ _)) Frz.aggn))))) (Frz.aggc (by exact (Frz.aggc (by exact Frz.pure rfl) (Frz.aggc (by exact Frz.nils) (Frz.aggc (by exact Frz.nils) (Frz.aggc (by exact Frz.nils) (Frz.aggc (by exact Frz.pure rfl) Frz.aggn)))))) (Frz.aggn))) (wr ⟨0, [], [], [], 0⟩ true rfl rfl rfl (by decide +kernel)) rfl rfl (fun _ => rfl) ?_
  refine GL.move I0.mono (by conv => lhs; whnf) ?_
  refine GL.guardT rfl ?_
  refine GL.loadW I0.mono (n := 4) rfl rfl rfl rfl (by simp) rfl rfl rfl ?_
  refine GL.guardT rfl ?_
  refine GL.buildS I0.mono (z := [LV.int .i64 0, LV.nils, LV.nils, LV.nils, LV.int .i64 0]) (cs := [_, _, _, _, _]) (n := 5) rfl rfl rfl (EvS.cons (by conv => lhs; whnf) (EvS.nil)) rfl rfl ?_
  refine GL.guardT rfl ?_
  refine GL.call0 I0.mono rfl (Frz.aggc (by exact (Frz.aggc (by exact Frz.whole rfl rfl rfl rfl (by exact em_len _ _)) (Frz.aggc (by exact Frz.nils) (Frz.aggc (by exact Frz.nils) (Frz.aggc (by exact Frz.whole rfl rfl rfl rfl (by exact em_len _ _)) Frz.aggn))))) (Frz.aggc (by exact (Frz.aggc (by exact Frz.pure rfl) (Frz.aggc (by exact Frz.nils) (Frz.aggc (by exact Frz.nils) (Frz.aggc (by exact Frz.nils) (Frz.aggc (by exact Frz.pure rfl) Frz.aggn)))))) (Frz.aggn))) (wr ⟨1, [], [], [], 0⟩ false rfl rfl rfl (by decide +kernel)) rfl rfl (fun _ => rfl) ?_
  refine GL.guardT rfl ?_
  refine GL.un I0.mono rfl ?_
  refine GL.pick I0.mono rfl (by conv => lhs; whnf) ?_
  refine GL.move I0.mono (by conv => lhs; whnf) ?_
  refine GL.guardT rfl ?_
  refine GL.loadW I0.mono (n := 4) rfl rfl rfl rfl (by simp) rfl rfl rfl ?_
  refine GL.guardT rfl ?_
  refine GL.buildS I0.mono (z := [LV.int .i64 0, LV.nils, LV.nils, LV.nils, LV.int .i64 0]) (cs := [_, _, _, _, _]) (n := 5) rfl rfl rfl (EvS.cons (by conv => lhs; whnf) (EvS.nil)) rfl rfl ?_
  refine GL.guardT rfl ?_
  refine GL.call0 I0.mono rfl (Frz.aggc (by exact (Frz.aggc (by exact Frz.whole rfl rfl rfl rfl (by exact em_len _ _)) (Frz.aggc (by exact Frz.nils) (Frz.aggc (by exact Frz.nils) (Frz.aggc (by exact Frz.whole rfl rfl rfl rfl (by exact em_len _ _)) Frz.aggn))))) (Frz.aggc (by exact (Frz.aggc (by exact Frz.pure rfl) (Frz.aggc (by exact Frz.nils) (Frz.aggc (by exact Frz.nils) (Frz.aggc (by exact Frz.nils) (Frz.aggc (by exact Frz.pure rfl) Frz.aggn)))))) (Frz.aggn))) (wr ⟨0, [], [], [], 1⟩ false rfl rfl rfl (by decide +kernel)) rfl rfl (fun _ => rfl) ?_
  refine GL.guardT rfl ?_
  refine GL.un I0.mono rfl ?_
  refine GL.pick I0.mono rfl (by conv => lhs; whnf) ?_
  refine GL.assign I0.mono (by conv => lhs; whnf) ?_
  refine GL.doneF ?_
  refine goOn ?_
  refine Wp.retI ?_
  refine RetX.ret ?_
  refine ⟨_, _, _, _, .cons (.tmp rfl) .nil, .frz (.pure rfl), List.nodup_nil, by simp, ?_⟩
  rfl

end Go.Proofs.Ytpepcfombibpeaa
