/- Routes driven, instances made: walked. -/
import Derived.Test.YtffnlhjdlhpmjaaProg
import Derived.Test.YtffnlhjdlhpmjaaLf
import Derived.Test.YtffnlhjdlhpmjaaLx
import Derived.KernelRfl
set_option linter.all false
namespace Go.Proofs.Ytffnlhjdlhpmjaa
open Go.Proofs Mv
set_option maxRecDepth 100000 in
set_option maxHeartbeats 4000000 in
theorem mate_ok (i : Inst) (hs : i.Short) (n : Int) : CallsV Try.prog 160 [ei i, .int .i64 n] (.int .i64 (mate i.pairs n)) := by
  refine CallsR.intro (I0.sound _) mix Try.func160 rfl rfl (by simp [Try.f160]) (by kernel_rfl) (nb := 0) ?_
  unfold Try.f160
  refine Wp.seqI ?_
  refine Wp.regI I0.mono ?_
  refine GL.box I0.mono (by conv => lhs; whnf) rfl (n := 4) rfl rfl ?_
  intro g2
  refine GL.assign I0.mono (by conv => lhs; whnf) ?_
  refine GL.doneF ?_
  refine goOn ?_
  refine Wp.seqI ?_
  refine Wp.seqI ?_
  refine Wp.regI I0.mono ?_
  refine GL.fieldAddr I0.mono (o := 2) rfl rfl rfl rfl (by conv => lhs; whnf) ?_
  refine GL.load I0.mono rfl rfl rfl rfl (by simp) rfl rfl ?_
  refine GL.lenF I0.mono rfl rfl (em_len _ _) ?_
  refine GL.move I0.mono (by conv => lhs; whnf) ?_
  refine GL.doneF ?_
  refine goOn ?_
  refine Wp.blockI ?_
  refine Wp.loopI I0.mono (α := Nat) (fun k st => (k ≤ i.pairs.length ∧ mate i.pairs n = mate (i.pairs.drop k) n) ∧ ∃ m0, st = ⟨(updS (updS (updS (updS (fun _ => LV.undef) 8 (.sl (em np i.pairs))) 9 (.int .i64 (i.pairs.length : Int))) 10 (.int .i64 (k : Int))) 1 (.int .i64 n)), effM m0 []⟩) (fun k => i.pairs.length - k) 0 ⟨_, (LessS.weak (LessS.upd (LessS.upd (LessS.upd (LessS.upd (LessS.nil _) rfl) rfl) rfl) rfl) _), ⟨by omega, by simp⟩, _, (congrArg (St.mk _) (effM_eq Has.nil).symm)⟩ ?_
  rintro k _ ⟨⟨hi, hA⟩, m0, rfl⟩
  have hsp := hs.pairs
  unfold Short at hsp
  refine Wp.seqI ?_
  refine Wp.regI I0.mono ?_
  refine GL.bin I0.mono rfl ?_
  refine GL.doneF ?_
  refine goOn ?_
  refine Wp.seqI ?_
  refine Wp.condI rfl (fun h11 => ?_) (fun h11 => ?_)
  ·replace h11 := of_decide_eq_true h11
   refine Wp.skipI ?_
   refine goOn ?_
   refine Wp.seqI ?_
   refine Wp.blockI ?_
   refine Wp.seqI ?_
   refine Wp.regI I0.mono ?_
   refine GL.indexAddrF I0.mono (sz := 2) rfl rfl rfl rfl (by omega) (by (rw [em_len]; omega)) (by intro e he; obtain ⟨a, -, rfl⟩ := List.mem_map.1 he; rfl) (by with_reducible exact Int.toNat_natCast _) ?_
   refine GL.loadFW I0.mono (n := 2) rfl rfl (em_get (by omega)) rfl rfl ?_
   refine GL.alloc I0.mono (cs := [LV.int .i64 0, LV.int .i64 0]) rfl rfl ?_
   intro g6
   refine GL.storeW I0.mono (n := 2) rfl rfl rfl rfl rfl rfl rfl (by conv => lhs; whnf) rfl rfl rfl ?_
   refine GL.doneF ?_
   refine goOn ?_
   refine Wp.seqI ?_
   refine Wp.regI I0.mono ?_
   refine GL.move I0.mono (by conv => lhs; whnf) ?_
   refine GL.doneF ?_
   refine goOn ?_
   refine Wp.blockI ?_
   refine Wp.seqI ?_
   refine Wp.regI I0.mono ?_
   refine GL.indexAddrA I0.mono (sz := 1) (len := 2) rfl rfl rfl rfl rfl rfl (by decide) (by decide) (by conv => lhs; whnf) ?_
   refine GL.load I0.mono rfl rfl rfl rfl (by simp) rfl rfl ?_
   refine GL.bin I0.mono rfl ?_
   refine GL.assign I0.mono (by conv => lhs; whnf) ?_
   refine GL.doneF ?_
   refine goOn ?_
   refine Wp.condI rfl (fun h15 => ?_) (fun h15 => ?_)
   ·replace h15 := of_decide_eq_true h15
    refine Wp.seqI ?_
    refine Wp.regI I0.mono ?_
    refine GL.indexAddrA I0.mono (sz := 1) (len := 2) rfl rfl rfl rfl rfl rfl (by decide) (by decide) (by conv => lhs; whnf) ?_
    refine GL.load I0.mono rfl rfl rfl rfl (by simp) rfl rfl ?_
    refine GL.assign I0.mono (by conv => lhs; whnf) ?_
    refine GL.doneF ?_
    refine goOn ?_
    refine Wp.retI ?_
    refine blockX.ret ?_
    refine blockX.ret ?_
    refine thenX.ret ?_
    refine thenX.ret ?_
    refine blockX.ret ?_
    refine thenX.ret ?_
    refine RetX.ret ?_
    refine ⟨_, _, _, _, .cons (.tmp rfl) .nil, .frz (.pure rfl), List.nodup_nil, by simp, ?_⟩
    show LV.int _ _ = LV.int _ _
    congr 1
    rw [hA]
    (rw [drop_getD (by omega), mate, if_pos (by simpa using h15)]; done)
   ·replace h15 := of_decide_eq_false h15
    refine Wp.seqI ?_
    refine Wp.regI I0.mono ?_
    refine GL.indexAddrA I0.mono (sz := 1) (len := 2) rfl rfl rfl rfl rfl rfl (by decide) (by decide) (by conv => lhs; whnf) ?_
    refine GL.load I0.mono rfl rfl rfl rfl (by simp) rfl rfl ?_
    refine GL.bin I0.mono rfl ?_
    refine GL.assign I0.mono (by conv => lhs; whnf) ?_
    refine GL.doneF ?_
    refine goOn ?_
    refine Wp.condI rfl (fun h21 => ?_) (fun h21 => ?_)
    ·replace h21 := of_decide_eq_true h21
     refine Wp.seqI ?_
     refine Wp.regI I0.mono ?_
     refine GL.indexAddrA I0.mono (sz := 1) (len := 2) rfl rfl rfl rfl rfl rfl (by decide) (by decide) (by conv => lhs; whnf) ?_
     refine GL.load I0.mono rfl rfl rfl rfl (by simp) rfl rfl ?_
     refine GL.assign I0.mono (by conv => lhs; whnf) ?_
     refine GL.doneF ?_
     refine goOn ?_
     refine Wp.retI ?_
     refine blockX.ret ?_
     refine blockX.ret ?_
     refine thenX.ret ?_
     refine thenX.ret ?_
     refine blockX.ret ?_
     refine thenX.ret ?_
     refine RetX.ret ?_
     refine ⟨_, _, _, _, .cons (.tmp rfl) .nil, .frz (.pure rfl), List.nodup_nil, by simp, ?_⟩
     show LV.int _ _ = LV.int _ _
     congr 1
     rw [hA]
     (rw [drop_getD (by omega), mate, if_neg (by simpa using h15), if_pos (by simpa using h21)]; done)
    ·replace h21 := of_decide_eq_false h21
     refine Wp.skipI ?_
     refine blockX.normal ?_
     refine blockX.normal ?_
     refine goOn ?_
     refine Wp.regI I0.mono ?_
     refine GL.addR I0.mono rfl rfl (by omega) ?_
     refine GL.move I0.mono (by conv => lhs; whnf) ?_
     refine GL.doneF ?_
     refine ⟨k + 1, (by dsimp only; omega), _, (LessS.weak (LessS.upd (LessS.upd (LessS.upd (LessS.upd (LessS.nil _) rfl) rfl) rfl) rfl) _), ⟨by omega, by rw [hA, drop_getD (by omega), mate, if_neg (by simpa using h15), if_neg (by simpa using h21)]⟩, _, (congrArg (St.mk _) (effM_eq Has.nil).symm)⟩
  ·replace h11 := of_decide_eq_false h11
   refine Wp.exitI ?_
   refine thenX.exit ?_
   refine thenX.exit ?_
   refine blockX.out ?_
   refine goOn ?_
   refine Wp.seqI ?_
   refine Wp.regI I0.mono ?_
   refine GL.assign I0.mono (by conv => lhs; whnf) ?_
   refine GL.doneF ?_
   refine goOn ?_
   refine Wp.retI ?_
   refine RetX.ret ?_
   refine ⟨_, _, _, _, .cons (.tmp rfl) .nil, .frz (.pure rfl), List.nodup_nil, by simp, ?_⟩
   show LV.int _ _ = LV.int _ _
   congr 1
   rw [hA]
   (rw [drop_all (by omega)]; rfl)

set_option maxRecDepth 100000 in
set_option maxHeartbeats 4000000 in
theorem first_ok (i : Inst) (hs : i.Short) (n : Int) : CallsV Try.prog 161 [ei i, .int .i64 n] (.bool (first i.pairs n)) := by
  refine CallsR.intro (I0.sound _) mix Try.func161 rfl rfl (by simp [Try.f161]) (by kernel_rfl) (nb := 0) ?_
  unfold Try.f161
  refine Wp.seqI ?_
  refine Wp.regI I0.mono ?_
  refine GL.box I0.mono (by conv => lhs; whnf) rfl (n := 4) rfl rfl ?_
  intro g2
  refine GL.assign I0.mono (by conv => lhs; whnf) ?_
  refine GL.doneF ?_
  refine goOn ?_
  refine Wp.seqI ?_
  refine Wp.seqI ?_
  refine Wp.regI I0.mono ?_
  refine GL.fieldAddr I0.mono (o := 2) rfl rfl rfl rfl (by conv => lhs; whnf) ?_
  refine GL.load I0.mono rfl rfl rfl rfl (by simp) rfl rfl ?_
  refine GL.lenF I0.mono rfl rfl (em_len _ _) ?_
  refine GL.move I0.mono (by conv => lhs; whnf) ?_
  refine GL.doneF ?_
  refine goOn ?_
  refine Wp.blockI ?_
  refine Wp.loopI I0.mono (α := Nat) (fun k st => (k ≤ i.pairs.length ∧ first i.pairs n = first (i.pairs.drop k) n) ∧ ∃ m0, st = ⟨(updS (updS (updS (updS (fun _ => LV.undef) 8 (.sl (em np i.pairs))) 9 (.int .i64 (i.pairs.length : Int))) 10 (.int .i64 (k : Int))) 1 (.int .i64 n)), effM m0 []⟩) (fun k => i.pairs.length - k) 0 ⟨_, (LessS.weak (LessS.upd (LessS.upd (LessS.upd (LessS.upd (LessS.nil _) rfl) rfl) rfl) rfl) _), ⟨by omega, by simp⟩, _, (congrArg (St.mk _) (effM_eq Has.nil).symm)⟩ ?_
  rintro k _ ⟨⟨hi, hA⟩, m0, rfl⟩
  have hsp := hs.pairs
  unfold Short at hsp
  refine Wp.seqI ?_
  refine Wp.regI I0.mono ?_
  refine GL.bin I0.mono rfl ?_
  refine GL.doneF ?_
  refine goOn ?_
  refine Wp.seqI ?_
  refine Wp.condI rfl (fun h11 => ?_) (fun h11 => ?_)
  ·replace h11 := of_decide_eq_true h11
   refine Wp.skipI ?_
   refine goOn ?_
   refine Wp.seqI ?_
   refine Wp.blockI ?_
   refine Wp.seqI ?_
   refine Wp.regI I0.mono ?_
   refine GL.indexAddrF I0.mono (sz := 2) rfl rfl rfl rfl (by omega) (by (rw [em_len]; omega)) (by intro e he; obtain ⟨a, -, rfl⟩ := List.mem_map.1 he; rfl) (by with_reducible exact Int.toNat_natCast _) ?_
   refine GL.loadFW I0.mono (n := 2) rfl rfl (em_get (by omega)) rfl rfl ?_
   refine GL.alloc I0.mono (cs := [LV.int .i64 0, LV.int .i64 0]) rfl rfl ?_
   intro g6
   refine GL.storeW I0.mono (n := 2) rfl rfl rfl rfl rfl rfl rfl (by conv => lhs; whnf) rfl rfl rfl ?_
   refine GL.doneF ?_
   refine goOn ?_
   refine Wp.seqI ?_
   refine Wp.regI I0.mono ?_
   refine GL.indexAddrA I0.mono (sz := 1) (len := 2) rfl rfl rfl rfl rfl rfl (by decide) (by decide) (by conv => lhs; whnf) ?_
   refine GL.load I0.mono rfl rfl rfl rfl (by simp) rfl rfl ?_
   refine GL.move I0.mono (by conv => lhs; whnf) ?_
   refine GL.bin I0.mono rfl ?_
   refine GL.doneF ?_
   refine goOn ?_
   refine Wp.condI rfl (fun h17 => ?_) (fun h17 => ?_)
   ·replace h17 := of_decide_eq_true h17
    refine Wp.seqI ?_
    refine Wp.regI I0.mono ?_
    refine GL.assign I0.mono (by conv => lhs; whnf) ?_
    refine GL.doneF ?_
    refine goOn ?_
    refine Wp.retI ?_
    refine blockX.ret ?_
    refine thenX.ret ?_
    refine thenX.ret ?_
    refine blockX.ret ?_
    refine thenX.ret ?_
    refine RetX.ret ?_
    refine ⟨_, _, _, _, .cons (.tmp rfl) .nil, .frz (.pure rfl), List.nodup_nil, by simp, ?_⟩
    show LV.bool _ = LV.bool _
    congr 1
    rw [hA]
    (rw [drop_getD (by omega), first, if_pos (by simpa using h17)]; done)
   ·replace h17 := of_decide_eq_false h17
    refine Wp.skipI ?_
    refine blockX.normal ?_
    refine goOn ?_
    refine Wp.regI I0.mono ?_
    refine GL.addR I0.mono rfl rfl (by omega) ?_
    refine GL.move I0.mono (by conv => lhs; whnf) ?_
    refine GL.doneF ?_
    refine ⟨k + 1, (by dsimp only; omega), _, (LessS.weak (LessS.upd (LessS.upd (LessS.upd (LessS.upd (LessS.nil _) rfl) rfl) rfl) rfl) _), ⟨by omega, by rw [hA, drop_getD (by omega), first, if_neg (by simpa using h17)]⟩, _, (congrArg (St.mk _) (effM_eq Has.nil).symm)⟩
  ·replace h11 := of_decide_eq_false h11
   refine Wp.exitI ?_
   refine thenX.exit ?_
   refine thenX.exit ?_
   refine blockX.out ?_
   refine goOn ?_
   refine Wp.seqI ?_
   refine Wp.regI I0.mono ?_
   refine GL.assign I0.mono (by conv => lhs; whnf) ?_
   refine GL.doneF ?_
   refine goOn ?_
   refine Wp.retI ?_
   refine RetX.ret ?_
   refine ⟨_, _, _, _, .cons (.tmp rfl) .nil, .frz (.pure rfl), List.nodup_nil, by simp, ?_⟩
   show LV.bool _ = LV.bool _
   congr 1
   rw [hA]
   (rw [drop_all (by omega)]; rfl)

set_option maxRecDepth 100000 in
set_option maxHeartbeats 4000000 in
theorem contains_ok (l : List Int) (hs : Short l) (n : Int) : CallsV Try.prog 159 [.sl (em ni l), .int .i64 n] (.bool (has l n)) := by
  refine CallsR.intro (I0.sound _) mix Try.func159 rfl rfl (by simp [Try.f159]) (by kernel_rfl) (nb := 0) ?_
  unfold Try.f159
  refine Wp.seqI ?_
  refine Wp.regI I0.mono ?_
  refine GL.assign I0.mono (by conv => lhs; whnf) ?_
  refine GL.doneF ?_
  refine goOn ?_
  refine Wp.seqI ?_
  refine Wp.regI I0.mono ?_
  refine GL.move I0.mono (by conv => lhs; whnf) ?_
  refine GL.move I0.mono (by conv => lhs; whnf) ?_
  refine GL.call0 I0.mono rfl (Frz.aggc (by exact Frz.pure rfl) (Frz.aggc (by exact Frz.pure rfl) (Frz.aggn))) (index_ok l hs n) rfl rfl (fun _ => rfl) ?_
  refine GL.bin I0.mono rfl ?_
  refine GL.assign I0.mono (by conv => lhs; whnf) ?_
  refine GL.doneF ?_
  refine goOn ?_
  refine Wp.retI ?_
  refine RetX.ret ?_
  refine ⟨_, _, _, _, .cons (.tmp rfl) .nil, .frz (.pure rfl), List.nodup_nil, by simp, ?_⟩
  rfl

set_option maxRecDepth 100000 in
set_option maxHeartbeats 4000000 in
theorem order_ok (i : Inst) (hs : i.Short) (l : List Int) (hl : Short l) : CallsV Try.prog 124 [ei i, .sl (em ni l)] (.bool (order i l)) := by
  refine CallsR.intro (I0.sound _) mix Try.func124 rfl rfl (by simp [Try.f124]) (by kernel_rfl) (nb := 0) ?_
  unfold Try.f124
  refine Wp.seqI ?_
  refine Wp.regI I0.mono ?_
  refine GL.box I0.mono (by conv => lhs; whnf) rfl (n := 4) rfl rfl ?_
  intro g2
  refine GL.assign I0.mono (by conv => lhs; whnf) ?_
  refine GL.doneF ?_
  refine goOn ?_
  refine Wp.seqI ?_
  refine Wp.seqI ?_
  refine Wp.regI I0.mono ?_
  refine GL.move I0.mono (by conv => lhs; whnf) ?_
  refine GL.lenF I0.mono rfl rfl (em_len _ _) ?_
  refine GL.move I0.mono (by conv => lhs; whnf) ?_
  refine GL.doneF ?_
  refine goOn ?_
  refine Wp.blockI ?_
  refine Wp.loopI I0.mono (α := Nat) (fun k st => (k ≤ l.length ∧ ∀ j, j < k → chk i l j (l.getD j default) = true) ∧ ∃ m0, st = ⟨(updS (updS (updS (updS (updS (fun _ => LV.undef) 9 (.sl (em ni l))) 10 (.int .i64 (l.length : Int))) 11 (.int .i64 (k : Int))) 1 (.sl (em ni l))) 2 (.ref 128 g2 0 0)), effM m0 [(128, ⟨g2, false, .var, 4, [ic i]⟩)]⟩) (fun k => l.length - k) 0 ⟨_, (LessS.weak (LessS.upd (LessS.upd (LessS.upd (LessS.upd (LessS.upd (LessS.nil _) rfl) rfl) rfl) rfl) rfl) _), ⟨by omega, fun j h => by omega⟩, _, (congrArg (St.mk _) (effM_eq (Has.cons rfl Has.nil)).symm)⟩ ?_
  rintro k _ ⟨⟨hi, hA⟩, m0, rfl⟩
  have hsp := hl
  unfold Short at hsp
  refine Wp.seqI ?_
  refine Wp.regI I0.mono ?_
  refine GL.bin I0.mono rfl ?_
  refine GL.doneF ?_
  refine goOn ?_
  refine Wp.seqI ?_
  refine Wp.condI rfl (fun h12 => ?_) (fun h12 => ?_)
  ·replace h12 := of_decide_eq_true h12
   refine Wp.skipI ?_
   refine goOn ?_
   refine Wp.seqI ?_
   refine Wp.blockI ?_
   refine Wp.seqI ?_
   refine Wp.regI I0.mono ?_
   refine GL.move I0.mono (by conv => lhs; whnf) ?_
   refine GL.indexAddrF I0.mono (sz := 1) rfl rfl rfl rfl (by omega) (by (rw [em_len]; omega)) (by intro e he; obtain ⟨a, -, rfl⟩ := List.mem_map.1 he; rfl) (by with_reducible exact Int.toNat_natCast _) ?_
   refine GL.loadF I0.mono rfl rfl (em_get (by omega)) rfl ?_
   refine GL.assign I0.mono (by conv => lhs; whnf) ?_
   refine GL.assign I0.mono (by conv => lhs; whnf) ?_
   refine GL.doneF ?_
   refine goOn ?_
   refine Wp.seqI ?_
   refine Wp.seqI ?_
   refine Wp.regI I0.mono ?_
   refine GL.loadW I0.mono (n := 4) rfl rfl rfl rfl (by simp) rfl rfl rfl ?_
   refine GL.move I0.mono (by conv => lhs; whnf) ?_
   refine GL.call0 I0.mono rfl (Frz.aggc (by exact Frz.pures rfl) (Frz.aggc (by exact Frz.pure rfl) (Frz.aggn))) (is_ok i _) rfl rfl (fun _ => rfl) ?_
   refine GL.un I0.mono rfl ?_
   refine GL.move I0.mono (by conv => lhs; whnf) ?_
   refine GL.splitAt 20 rfl (fun h20 => ?_) (fun h20 => ?_)
   ·rw [h20]
    skip
    refine GL.guardF rfl ?_
    refine GL.guardF rfl ?_
    refine GL.guardF rfl ?_
    refine GL.guardF rfl ?_
    refine GL.guardF rfl ?_
    refine GL.pick I0.mono rfl (by conv => lhs; whnf) ?_
    refine GL.doneF ?_
    refine goOn ?_
    refine Wp.condT rfl ?_
    refine Wp.seqI ?_
    refine Wp.regI I0.mono ?_
    refine GL.assign I0.mono (by conv => lhs; whnf) ?_
    refine GL.doneF ?_
    refine goOn ?_
    refine Wp.retI ?_
    refine thenX.ret ?_
    refine blockX.ret ?_
    refine thenX.ret ?_
    refine thenX.ret ?_
    refine blockX.ret ?_
    refine thenX.ret ?_
    refine RetX.ret ?_
    refine ⟨_, _, _, _, .cons (.tmp rfl) .nil, .frz (.pure rfl), List.nodup_nil, by simp, ?_⟩
    first
    | exact congrArg LV.bool (order_true fun j hj => hA j (by omega)).symm
    | (refine congrArg LV.bool (order_false (k := k) (by omega) ?_).symm; unfold chk; simp_all [has]; done)
   
   ·rw [h20]
    skip
    refine GL.guardT rfl ?_
    refine GL.move I0.mono (by conv => lhs; whnf) ?_
    refine GL.guardT rfl ?_
    refine GL.move I0.mono (by conv => lhs; whnf) ?_
    refine GL.guardT rfl ?_
    refine GL.sliceTo I0.mono (sz := 1) rfl rfl rfl rfl (by intro e he; obtain ⟨a, -, rfl⟩ := List.mem_map.1 he; rfl) (by omega) (by omega) (by with_reducible exact Int.toNat_natCast _) ?_
    refine GL.guardT rfl ?_
    refine GL.move I0.mono (by conv => lhs; whnf) ?_
    refine GL.guardT rfl ?_
    refine GL.call0 I0.mono rfl (Frz.aggc (by exact Frz.pure rfl) (Frz.aggc (by exact Frz.pure rfl) (Frz.aggn))) (contains_ok (l.take k) (hl.take k) _) rfl rfl (fun _ => rfl) ?_
    refine GL.pick I0.mono rfl (by conv => lhs; whnf) ?_
    refine GL.doneF ?_
    refine goOn ?_
    refine Wp.condI rfl (fun h26 => ?_) (fun h26 => ?_)
    ·replace h26 := of_decide_eq_true h26
     refine Wp.seqI ?_
     refine Wp.regI I0.mono ?_
     refine GL.assign I0.mono (by conv => lhs; whnf) ?_
     refine GL.doneF ?_
     refine goOn ?_
     refine Wp.retI ?_
     refine thenX.ret ?_
     refine blockX.ret ?_
     refine thenX.ret ?_
     refine thenX.ret ?_
     refine blockX.ret ?_
     refine thenX.ret ?_
     refine RetX.ret ?_
     refine ⟨_, _, _, _, .cons (.tmp rfl) .nil, .frz (.pure rfl), List.nodup_nil, by simp, ?_⟩
     first
     | exact congrArg LV.bool (order_true fun j hj => hA j (by omega)).symm
     | (refine congrArg LV.bool (order_false (k := k) (by omega) ?_).symm; unfold chk; simp_all [has]; done)
    
    ·replace h26 := of_decide_eq_false h26
     refine Wp.skipI ?_
     refine goOn ?_
     refine Wp.seqI ?_
     refine Wp.regI I0.mono ?_
     refine GL.loadW I0.mono (n := 4) rfl rfl rfl rfl (by simp) rfl rfl rfl ?_
     refine GL.move I0.mono (by conv => lhs; whnf) ?_
     refine GL.call0 I0.mono rfl (Frz.aggc (by exact Frz.pures rfl) (Frz.aggc (by exact Frz.pure rfl) (Frz.aggn))) (mate_ok i hs _) rfl rfl (fun _ => rfl) ?_
     refine GL.assign I0.mono (by conv => lhs; whnf) ?_
     refine GL.doneF ?_
     refine goOn ?_
     refine Wp.seqI ?_
     refine Wp.seqI ?_
     refine Wp.regI I0.mono ?_
     refine GL.move I0.mono (by conv => lhs; whnf) ?_
     refine GL.bin I0.mono rfl ?_
     refine GL.doneF ?_
     refine goOn ?_
     refine Wp.condI rfl (fun h31 => ?_) (fun h31 => ?_)
     ·replace h31 := of_decide_eq_true h31
      refine Wp.exitI ?_
      refine thenX.exit ?_
      refine blockX.out ?_
      refine goOn ?_
      refine Wp.regI I0.mono ?_
      refine GL.addR I0.mono rfl rfl (by omega) ?_
      refine GL.move I0.mono (by conv => lhs; whnf) ?_
      refine GL.doneF ?_
      have hk : chk i l k (l.getD k default) = true := by
        unfold chk
        simp_all [has]
      refine ⟨k + 1, (by dsimp only; omega), _, (LessS.weak (LessS.upd (LessS.upd (LessS.upd (LessS.upd (LessS.upd (LessS.nil _) rfl) rfl) rfl) rfl) rfl) _), ⟨by omega, fun j h => by
            by_cases hj : j = k
            · subst hj; exact hk
            · exact hA j (by omega)⟩, _, (congrArg (St.mk _) (effM_eq (Has.cons rfl Has.nil)).symm)⟩
     ·replace h31 := of_decide_eq_false h31
      refine Wp.skipI ?_
      refine goOn ?_
      refine Wp.seqI ?_
      refine Wp.regI I0.mono ?_
      refine GL.move I0.mono (by conv => lhs; whnf) ?_
      refine GL.move I0.mono (by conv => lhs; whnf) ?_
      refine GL.call0 I0.mono rfl (Frz.aggc (by exact Frz.pure rfl) (Frz.aggc (by exact Frz.pure rfl) (Frz.aggn))) (index_ok l hl _) rfl rfl (fun _ => rfl) ?_
      refine GL.assign I0.mono (by conv => lhs; whnf) ?_
      refine GL.doneF ?_
      refine goOn ?_
      refine Wp.seqI ?_
      refine Wp.regI I0.mono ?_
      refine GL.move I0.mono (by conv => lhs; whnf) ?_
      refine GL.bin I0.mono rfl ?_
      refine GL.move I0.mono (by conv => lhs; whnf) ?_
      refine GL.splitAt 37 rfl (fun h37 => ?_) (fun h37 => ?_)
      ·rw [h37]
       replace h37 := of_decide_eq_true h37
       refine GL.guardF rfl ?_
       refine GL.guardF rfl ?_
       refine GL.guardF rfl ?_
       refine GL.guardF rfl ?_
       refine GL.guardF rfl ?_
       refine GL.guardF rfl ?_
       refine GL.guardF rfl ?_
       refine GL.pick I0.mono rfl (by conv => lhs; whnf) ?_
       refine GL.doneF ?_
       refine goOn ?_
       refine Wp.condT rfl ?_
       refine Wp.seqI ?_
       refine Wp.regI I0.mono ?_
       refine GL.assign I0.mono (by conv => lhs; whnf) ?_
       refine GL.doneF ?_
       refine goOn ?_
       refine Wp.retI ?_
       refine blockX.ret ?_
       refine thenX.ret ?_
       refine thenX.ret ?_
       refine blockX.ret ?_
       refine thenX.ret ?_
       refine RetX.ret ?_
       refine ⟨_, _, _, _, .cons (.tmp rfl) .nil, .frz (.pure rfl), List.nodup_nil, by simp, ?_⟩
       first
       | exact congrArg LV.bool (order_true fun j hj => hA j (by omega)).symm
       | (refine congrArg LV.bool (order_false (k := k) (by omega) ?_).symm; unfold chk; simp_all [has]; done)
      
      ·rw [h37]
       replace h37 := of_decide_eq_false h37
       refine GL.guardT rfl ?_
       refine GL.loadW I0.mono (n := 4) rfl rfl rfl rfl (by simp) rfl rfl rfl ?_
       refine GL.guardT rfl ?_
       refine GL.move I0.mono (by conv => lhs; whnf) ?_
       refine GL.guardT rfl ?_
       refine GL.call0 I0.mono rfl (Frz.aggc (by exact Frz.pures rfl) (Frz.aggc (by exact Frz.pure rfl) (Frz.aggn))) (first_ok i hs _) rfl rfl (fun _ => rfl) ?_
       refine GL.guardT rfl ?_
       refine GL.move I0.mono (by conv => lhs; whnf) ?_
       refine GL.guardT rfl ?_
       refine GL.move I0.mono (by conv => lhs; whnf) ?_
       refine GL.guardT rfl ?_
       refine GL.bin I0.mono rfl ?_
       refine GL.guardT rfl ?_
       refine GL.bin I0.mono rfl ?_
       refine GL.pick I0.mono rfl (by conv => lhs; whnf) ?_
       refine GL.doneF ?_
       refine goOn ?_
       refine Wp.condI rfl (fun h45 => ?_) (fun h45 => ?_)
       ·skip
        refine Wp.seqI ?_
        refine Wp.regI I0.mono ?_
        refine GL.assign I0.mono (by conv => lhs; whnf) ?_
        refine GL.doneF ?_
        refine goOn ?_
        refine Wp.retI ?_
        refine blockX.ret ?_
        refine thenX.ret ?_
        refine thenX.ret ?_
        refine blockX.ret ?_
        refine thenX.ret ?_
        refine RetX.ret ?_
        refine ⟨_, _, _, _, .cons (.tmp rfl) .nil, .frz (.pure rfl), List.nodup_nil, by simp, ?_⟩
        first
        | exact congrArg LV.bool (order_true fun j hj => hA j (by omega)).symm
        | (refine congrArg LV.bool (order_false (k := k) (by omega) ?_).symm; unfold chk; simp_all [has]; done)
       
       ·skip
        refine Wp.skipI ?_
        refine blockX.normal ?_
        refine goOn ?_
        refine Wp.regI I0.mono ?_
        refine GL.addR I0.mono rfl rfl (by omega) ?_
        refine GL.move I0.mono (by conv => lhs; whnf) ?_
        refine GL.doneF ?_
        have hk : chk i l k (l.getD k default) = true := by
          unfold chk
          simp_all [has]
        refine ⟨k + 1, (by dsimp only; omega), _, (LessS.weak (LessS.upd (LessS.upd (LessS.upd (LessS.upd (LessS.upd (LessS.nil _) rfl) rfl) rfl) rfl) rfl) _), ⟨by omega, fun j h => by
              by_cases hj : j = k
              · subst hj; exact hk
              · exact hA j (by omega)⟩, _, (congrArg (St.mk _) (effM_eq (Has.cons rfl Has.nil)).symm)⟩
  ·replace h12 := of_decide_eq_false h12
   refine Wp.exitI ?_
   refine thenX.exit ?_
   refine thenX.exit ?_
   refine blockX.out ?_
   refine goOn ?_
   refine Wp.seqI ?_
   refine Wp.regI I0.mono ?_
   refine GL.assign I0.mono (by conv => lhs; whnf) ?_
   refine GL.doneF ?_
   refine goOn ?_
   refine Wp.retI ?_
   refine RetX.ret ?_
   refine ⟨_, _, _, _, .cons (.tmp rfl) .nil, .frz (.pure rfl), List.nodup_nil, by simp, ?_⟩
   first
   | exact congrArg LV.bool (order_true fun j hj => hA j (by omega)).symm
   | (refine congrArg LV.bool (order_false (k := k) (by omega) ?_).symm; unfold chk; simp_all [has]; done)
  


/-- A trip that is handed over whole. -/
def tripO (o : Option Trip) : LV := .tup [.agg [.slo 1 (em ni (o.getD zeroT).t0), .slo 1 (em ni (o.getD zeroT).t1), .int .i64 (o.getD zeroT).t2, .int .i64 (o.getD zeroT).t3], .bool o.isSome]

set_option maxRecDepth 100000 in
set_option maxHeartbeats 4000000 in
theorem eval_own (i : Inst) (hs : i.Short) (car : Int) (l : List Int) (hl : Short l) : CallsV Try.prog 79 [ei i, .int .i64 car, .sl (em ni l)] (tripO (eval i car l)) := by
  refine CallsR.intro (I0.sound _) mix Try.func79 rfl rfl (by simp [Try.f79]) (by kernel_rfl) (nb := 0) ?_
  unfold Try.f79
  refine Wp.seqI ?_
  refine Wp.regI I0.mono ?_
  refine GL.box I0.mono (by conv => lhs; whnf) rfl (n := 4) rfl rfl ?_
  intro g3
  refine GL.alloc I0.mono (cs := [LV.nils, LV.nils, LV.int .i64 0, LV.int .i64 0]) rfl rfl ?_
  intro g6
  refine GL.assign I0.mono (by conv => lhs; whnf) ?_
  refine GL.doneF ?_
  refine goOn ?_
  refine Wp.seqI ?_
  refine Wp.seqI ?_
  refine Wp.regI I0.mono ?_
  refine GL.move I0.mono (by conv => lhs; whnf) ?_
  refine GL.bin I0.mono rfl ?_
  refine GL.move I0.mono (by conv => lhs; whnf) ?_
  refine GL.splitAt 19 rfl (fun h19 => ?_) (fun h19 => ?_)
  ·rw [h19]
   replace h19 := of_decide_eq_true h19
   refine GL.guardF rfl ?_
   refine GL.guardF rfl ?_
   refine GL.guardF rfl ?_
   refine GL.guardF rfl ?_
   refine GL.guardF rfl ?_
   refine GL.pick I0.mono rfl (by conv => lhs; whnf) ?_
   refine GL.move I0.mono (by conv => lhs; whnf) ?_
   refine GL.guardF rfl ?_
   refine GL.guardF rfl ?_
   refine GL.guardF rfl ?_
   refine GL.guardF rfl ?_
   refine GL.pick I0.mono rfl (by conv => lhs; whnf) ?_
   refine GL.doneF ?_
   refine goOn ?_
   refine Wp.condT rfl ?_
   refine Wp.seqI ?_
   refine Wp.regI I0.mono ?_
   refine GL.buildS I0.mono (z := [LV.nils, LV.nils, LV.int .i64 0, LV.int .i64 0]) (cs := [_, _, _, _]) (n := 4) rfl rfl rfl (EvS.nil) rfl rfl ?_
   refine GL.storeW I0.mono (n := 4) rfl rfl rfl rfl rfl rfl rfl (by conv => lhs; whnf) rfl rfl rfl ?_
   refine GL.assign I0.mono (by conv => lhs; whnf) ?_
   refine GL.doneF ?_
   refine goOn ?_
   refine Wp.retI ?_
   refine thenX.ret ?_
   refine RetX.ret ?_
   refine ⟨_, _, _, _, .cons (.cellA (n := 4) rfl rfl rfl (by simp) rfl rfl rfl (Nat.le_of_ble_eq_true rfl)) (.cons (.tmp rfl) .nil), .tup (.aggc (.aggc (by exact Exp.nils (sz := 1)) (.aggc (by exact Exp.nils (sz := 1)) (.aggc (.frz (.pure rfl)) (.aggc (.frz (.pure rfl)) .aggn)))) (.aggc (.frz (.pure rfl)) .aggn)), (by decide), by simp, ?_⟩
   first
   | (rw [eval_out (by exact .inl h19)]; rfl)
   | (rw [eval_in h19 h26 (by simpa using h31) (hE.trans (by rw [drop_getD (by omega), evalGo, if_pos (by first | exact .inl h73 | exact .inr (.inl h77) | exact .inr (.inr h82))]))]; rfl)
   | (rw [eval_in h19 h26 (by simpa using h31) (hE.trans (by rw [drop_all (by omega), evalGo, if_pos (show wadd _ _ > _ from h112)]))]; rfl)
   | (rw [eval_in h19 h26 (by simpa using h31) (hE.trans (by rw [drop_all (by omega), evalGo, if_neg (show ¬ wadd _ _ > _ from h112)]))]; rfl)
  
  ·rw [h19]
   replace h19 := of_decide_eq_false h19
   refine GL.guardT rfl ?_
   refine GL.move I0.mono (by conv => lhs; whnf) ?_
   refine GL.guardT rfl ?_
   refine GL.fieldAddr I0.mono (o := 0) rfl rfl rfl rfl (by conv => lhs; whnf) ?_
   refine GL.guardT rfl ?_
   refine GL.load I0.mono rfl rfl rfl rfl (by simp) rfl rfl ?_
   refine GL.guardT rfl ?_
   refine GL.lenF I0.mono rfl rfl (em_len _ _) ?_
   refine GL.guardT rfl ?_
   refine GL.bin I0.mono rfl ?_
   refine GL.pick I0.mono rfl (by conv => lhs; whnf) ?_
   refine GL.move I0.mono (by conv => lhs; whnf) ?_
   refine GL.splitAt 26 rfl (fun h26 => ?_) (fun h26 => ?_)
   ·rw [h26]
    replace h26 := of_decide_eq_true h26
    refine GL.guardF rfl ?_
    refine GL.guardF rfl ?_
    refine GL.guardF rfl ?_
    refine GL.guardF rfl ?_
    refine GL.pick I0.mono rfl (by conv => lhs; whnf) ?_
    refine GL.doneF ?_
    refine goOn ?_
    refine Wp.condT rfl ?_
    refine Wp.seqI ?_
    refine Wp.regI I0.mono ?_
    refine GL.buildS I0.mono (z := [LV.nils, LV.nils, LV.int .i64 0, LV.int .i64 0]) (cs := [_, _, _, _]) (n := 4) rfl rfl rfl (EvS.nil) rfl rfl ?_
    refine GL.storeW I0.mono (n := 4) rfl rfl rfl rfl rfl rfl rfl (by conv => lhs; whnf) rfl rfl rfl ?_
    refine GL.assign I0.mono (by conv => lhs; whnf) ?_
    refine GL.doneF ?_
    refine goOn ?_
    refine Wp.retI ?_
    refine thenX.ret ?_
    refine RetX.ret ?_
    refine ⟨_, _, _, _, .cons (.cellA (n := 4) rfl rfl rfl (by simp) rfl rfl rfl (Nat.le_of_ble_eq_true rfl)) (.cons (.tmp rfl) .nil), .tup (.aggc (.aggc (by exact Exp.nils (sz := 1)) (.aggc (by exact Exp.nils (sz := 1)) (.aggc (.frz (.pure rfl)) (.aggc (.frz (.pure rfl)) .aggn)))) (.aggc (.frz (.pure rfl)) .aggn)), (by decide), by simp, ?_⟩
    first
    | (rw [eval_out (by exact .inr (.inl h26))]; rfl)
    | (rw [eval_in h19 h26 (by simpa using h31) (hE.trans (by rw [drop_getD (by omega), evalGo, if_pos (by first | exact .inl h73 | exact .inr (.inl h77) | exact .inr (.inr h82))]))]; rfl)
    | (rw [eval_in h19 h26 (by simpa using h31) (hE.trans (by rw [drop_all (by omega), evalGo, if_pos (show wadd _ _ > _ from h112)]))]; rfl)
    | (rw [eval_in h19 h26 (by simpa using h31) (hE.trans (by rw [drop_all (by omega), evalGo, if_neg (show ¬ wadd _ _ > _ from h112)]))]; rfl)
   
   ·rw [h26]
    replace h26 := of_decide_eq_false h26
    refine GL.guardT rfl ?_
    refine GL.loadW I0.mono (n := 4) rfl rfl rfl rfl (by simp) rfl rfl rfl ?_
    refine GL.guardT rfl ?_
    refine GL.move I0.mono (by conv => lhs; whnf) ?_
    refine GL.guardT rfl ?_
    refine GL.call0 I0.mono rfl (Frz.aggc (by exact Frz.pures rfl) (Frz.aggc (by exact Frz.pure rfl) (Frz.aggn))) (order_ok i hs l hl) rfl rfl (fun _ => rfl) ?_
    refine GL.guardT rfl ?_
    refine GL.un I0.mono rfl ?_
    refine GL.pick I0.mono rfl (by conv => lhs; whnf) ?_
    refine GL.doneF ?_
    refine goOn ?_
    refine Wp.condI rfl (fun h31 => ?_) (fun h31 => ?_)
    ·skip
     refine Wp.seqI ?_
     refine Wp.regI I0.mono ?_
     refine GL.buildS I0.mono (z := [LV.nils, LV.nils, LV.int .i64 0, LV.int .i64 0]) (cs := [_, _, _, _]) (n := 4) rfl rfl rfl (EvS.nil) rfl rfl ?_
     refine GL.storeW I0.mono (n := 4) rfl rfl rfl rfl rfl rfl rfl (by conv => lhs; whnf) rfl rfl rfl ?_
     refine GL.assign I0.mono (by conv => lhs; whnf) ?_
     refine GL.doneF ?_
     refine goOn ?_
     refine Wp.retI ?_
     refine thenX.ret ?_
     refine RetX.ret ?_
     refine ⟨_, _, _, _, .cons (.cellA (n := 4) rfl rfl rfl (by simp) rfl rfl rfl (Nat.le_of_ble_eq_true rfl)) (.cons (.tmp rfl) .nil), .tup (.aggc (.aggc (by exact Exp.nils (sz := 1)) (.aggc (by exact Exp.nils (sz := 1)) (.aggc (.frz (.pure rfl)) (.aggc (.frz (.pure rfl)) .aggn)))) (.aggc (.frz (.pure rfl)) .aggn)), (by decide), by simp, ?_⟩
     first
     | (rw [eval_out (by exact .inr (.inr (by simpa using h31)))]; rfl)
     | (rw [eval_in h19 h26 (by simpa using h31) (hE.trans (by rw [drop_getD (by omega), evalGo, if_pos (by first | exact .inl h73 | exact .inr (.inl h77) | exact .inr (.inr h82))]))]; rfl)
     | (rw [eval_in h19 h26 (by simpa using h31) (hE.trans (by rw [drop_all (by omega), evalGo, if_pos (show wadd _ _ > _ from h112)]))]; rfl)
     | (rw [eval_in h19 h26 (by simpa using h31) (hE.trans (by rw [drop_all (by omega), evalGo, if_neg (show ¬ wadd _ _ > _ from h112)]))]; rfl)
    
    ·skip
     refine Wp.skipI ?_
     refine goOn ?_
     refine Wp.seqI ?_
     refine Wp.regI I0.mono ?_
     refine GL.fieldAddr I0.mono (o := 0) rfl rfl rfl rfl (by conv => lhs; whnf) ?_
     refine GL.load I0.mono rfl rfl rfl rfl (by simp) rfl rfl ?_
     refine GL.move I0.mono (by conv => lhs; whnf) ?_
     refine GL.indexAddrF I0.mono (sz := 3) rfl rfl rfl rfl (by omega) (by (rw [em_len]; omega)) (by intro e he; obtain ⟨a, -, rfl⟩ := List.mem_map.1 he; rfl) (by rfl) ?_
     refine GL.loadFW I0.mono (n := 3) rfl rfl (em_get (by omega)) rfl rfl ?_
     refine GL.alloc I0.mono (cs := [LV.int .i64 0, LV.int .i64 0, LV.int .i64 0]) rfl rfl ?_
     intro g8
     refine GL.storeW I0.mono (n := 3) rfl rfl rfl rfl rfl rfl rfl (by conv => lhs; whnf) rfl rfl rfl ?_
     refine GL.doneF ?_
     refine goOn ?_
     refine Wp.seqI ?_
     refine Wp.regI I0.mono ?_
     refine GL.loadW I0.mono (n := 4) rfl rfl rfl rfl (by simp) rfl rfl rfl ?_
     refine GL.move I0.mono (by conv => lhs; whnf) ?_
     refine GL.call0 I0.mono rfl (Frz.aggc (by exact Frz.pures rfl) (Frz.aggc (by exact Frz.pure rfl) (Frz.aggn))) (cost_ok i hs l hl) rfl rfl (fun _ => rfl) ?_
     refine GL.buildS I0.mono (z := [LV.nils, LV.nils, LV.int .i64 0, LV.int .i64 0]) (cs := [_, _, _, _]) (n := 4) rfl rfl rfl (EvS.cons (by conv => lhs; whnf) (EvS.nil)) rfl rfl ?_
     refine GL.alloc I0.mono (cs := [LV.nils, LV.nils, LV.int .i64 0, LV.int .i64 0]) rfl rfl ?_
     intro g9
     refine GL.storeW I0.mono (n := 4) rfl rfl rfl rfl rfl rfl rfl (by conv => lhs; whnf) rfl rfl rfl ?_
     refine GL.doneF ?_
     refine goWeak (Weak.trans (Weak.nilCell (n := 576) (c := 0) 700001 1 rfl rfl rfl rfl rfl rfl) (Weak.nilCell (n := 576) (c := 1) 700002 1 rfl rfl rfl rfl rfl rfl)) ?_
     refine Wp.seqI ?_
     refine Wp.regD ?_
     refine GL.fieldAddr I0.mono (o := 1) rfl rfl rfl rfl (by conv => lhs; whnf) ?_
     refine GL.load I0.mono rfl rfl rfl rfl (by simp) rfl rfl ?_
     refine GL.assign I0.mono (by conv => lhs; whnf) ?_
     refine GL.assign I0.mono (by conv => lhs; whnf) ?_
     refine GL.assign I0.mono (by conv => lhs; whnf) ?_
     refine GL.doneT (by kernel_rfl) ?_
     refine goOn ?_
     refine Wp.seqI ?_
     refine Wp.seqI ?_
     refine Wp.regI I0.mono ?_
     refine GL.move I0.mono (by conv => lhs; whnf) ?_
     refine GL.lenF I0.mono rfl rfl (em_len _ _) ?_
     refine GL.move I0.mono (by conv => lhs; whnf) ?_
     refine GL.doneF ?_
     refine goOn ?_
     refine Wp.blockI ?_
     refine Wp.loopI I0.mono (α := Nat × Int × Int × Int × List Int × List Int × Nat × Nat) (fun ⟨k, p, clock, load, ss, ls, ga, gb⟩ st => (k ≤ l.length ∧ evalGo i (i.cars.getD car.toNat default) 0 (i.cars.getD car.toNat default).c1 0 [] [] l = evalGo i (i.cars.getD car.toNat default) p clock load ss ls (l.drop k) ∧ 0 ≤ p ∧ ss.length = k ∧ ls.length = k) ∧ ∃ m0, st = ⟨(updS (updS (updS (updS (updS (updS (updS (updS (updS (updS (fun _ => LV.undef) 44 (.sl (em ni l))) 45 (.int .i64 (l.length : Int))) 46 (.int .i64 (k : Int))) 3 (.ref 192 g3 0 0)) 6 (.ref 384 g6 0 0)) 8 (.ref 512 g8 0 0)) 9 (.ref 576 g9 0 0)) 10 (.int .i64 p)) 11 (.int .i64 clock)) 12 (.int .i64 load)), effM m0 [(192, ⟨g3, false, .var, 4, [ic i]⟩), (384, ⟨g6, false, .var, 4, [[.nils, .nils, .int .i64 0, .int .i64 0]]⟩), (512, ⟨g8, false, .var, 3, [nc (i.cars.getD car.toNat default)]⟩), (576, ⟨g9, false, .var, 4, [[.own 700001 ga 0 k none, .own 700002 gb 0 k none, .int .i64 (cost i l), .int .i64 0]]⟩), (700001, ⟨ga, false, .slc, 1, em ni ss⟩), (700002, ⟨gb, false, .slc, 1, em ni ls⟩)]⟩) (fun ⟨k, p, clock, load, ss, ls, ga, gb⟩ => l.length - k) ⟨0, 0, (i.cars.getD car.toNat default).c1, 0, [], [], _, _⟩ ⟨_, (LessS.weak (LessS.upd (LessS.upd (LessS.upd (LessS.upd (LessS.upd (LessS.upd (LessS.upd (LessS.upd (LessS.upd (LessS.upd (LessS.nil _) rfl) rfl) rfl) rfl) rfl) rfl) rfl) rfl) rfl) rfl) _), ⟨by omega, rfl, by omega, rfl, rfl⟩, _, (congrArg (St.mk _) (effM_eq (Has.cons rfl (Has.cons rfl (Has.cons rfl (Has.cons rfl (Has.cons rfl (Has.cons rfl Has.nil))))))).symm)⟩ ?_
     rintro ⟨k, p, clock, load, ss, ls, ga, gb⟩ _ ⟨⟨hi, hE, hp, hss, hls⟩, m0, rfl⟩
     have hsp := hl
     have hst := hs.stops
     unfold Short at hsp hst
     refine Wp.seqI ?_
     refine Wp.regI I0.mono ?_
     refine GL.bin I0.mono rfl ?_
     refine GL.doneF ?_
     refine goOn ?_
     refine Wp.seqI ?_
     refine Wp.condI rfl (fun h47 => ?_) (fun h47 => ?_)
     ·replace h47 := of_decide_eq_true h47
      have hx := isStop_le (order_stop (by simpa using h31) k (by omega))
      refine Wp.skipI ?_
      refine goOn ?_
      refine Wp.seqI ?_
      refine Wp.blockI ?_
      refine Wp.seqI ?_
      refine Wp.regI I0.mono ?_
      refine GL.indexAddrF I0.mono (sz := 1) rfl rfl rfl rfl (by omega) (by (rw [em_len]; omega)) (by intro e he; obtain ⟨a, -, rfl⟩ := List.mem_map.1 he; rfl) (by with_reducible exact Int.toNat_natCast _) ?_
      refine GL.loadF I0.mono rfl rfl (em_get (by omega)) rfl ?_
      refine GL.assign I0.mono (by conv => lhs; whnf) ?_
      refine GL.doneF ?_
      refine goOn ?_
      refine Wp.seqI ?_
      refine Wp.regI I0.mono ?_
      refine GL.fieldAddr I0.mono (o := 1) rfl rfl rfl rfl (by conv => lhs; whnf) ?_
      refine GL.load I0.mono rfl rfl rfl rfl (by simp) rfl rfl ?_
      refine GL.move I0.mono (by conv => lhs; whnf) ?_
      refine GL.subR I0.mono rfl rfl (by omega) ?_
      refine GL.indexAddrF I0.mono (sz := 4) rfl rfl rfl rfl (by omega) (by (rw [em_len]; omega)) (by intro e he; obtain ⟨a, -, rfl⟩ := List.mem_map.1 he; rfl) (by rfl) ?_
      refine GL.loadFW I0.mono (n := 4) rfl rfl (em_get (by omega)) rfl rfl ?_
      refine GL.alloc I0.mono (cs := [LV.int .i64 0, LV.int .i64 0, LV.int .i64 0, LV.int .i64 0]) rfl rfl ?_
      intro g15
      refine GL.storeW I0.mono (n := 4) rfl rfl rfl rfl rfl rfl rfl (by conv => lhs; whnf) rfl rfl rfl ?_
      refine GL.doneF ?_
      refine goOn ?_
      refine Wp.seqI ?_
      refine Wp.regD ?_
      refine GL.fieldAddr I0.mono (o := 1) rfl rfl rfl rfl (by conv => lhs; whnf) ?_
      refine GL.load I0.mono rfl rfl rfl rfl (by simp) rfl rfl ?_
      refine GL.move I0.mono (by conv => lhs; whnf) ?_
      refine GL.loadW I0.mono (n := 4) rfl rfl rfl rfl (by simp) rfl rfl rfl ?_
      refine GL.move I0.mono (by conv => lhs; whnf) ?_
      refine GL.move I0.mono (by conv => lhs; whnf) ?_
      refine GL.call0 I0.mono rfl (Frz.aggc (by exact Frz.pures rfl) (Frz.aggc (by exact Frz.pure rfl) (Frz.aggc (by exact Frz.pure rfl) (Frz.aggn)))) (way_ok i hs _ _ (by omega) (by omega)) rfl rfl (fun _ => rfl) ?_
      refine GL.bin I0.mono rfl ?_
      refine GL.max I0.mono rfl ?_
      refine GL.assign I0.mono (by conv => lhs; whnf) ?_
      refine GL.doneT (by kernel_rfl) ?_
      refine goOn ?_
      refine Wp.seqI ?_
      refine Wp.regI I0.mono ?_
      refine GL.move I0.mono (by conv => lhs; whnf) ?_
      refine GL.fieldAddr I0.mono (o := 0) rfl rfl rfl rfl (by conv => lhs; whnf) ?_
      refine GL.load I0.mono rfl rfl rfl rfl (by simp) rfl rfl ?_
      refine GL.bin I0.mono rfl ?_
      refine GL.assign I0.mono (by conv => lhs; whnf) ?_
      refine GL.doneF ?_
      refine goOn ?_
      refine Wp.seqI ?_
      refine Wp.seqI ?_
      refine Wp.regI I0.mono ?_
      refine GL.move I0.mono (by conv => lhs; whnf) ?_
      refine GL.fieldAddr I0.mono (o := 2) rfl rfl rfl rfl (by conv => lhs; whnf) ?_
      refine GL.load I0.mono rfl rfl rfl rfl (by simp) rfl rfl ?_
      refine GL.bin I0.mono rfl ?_
      refine GL.move I0.mono (by conv => lhs; whnf) ?_
      refine GL.splitAt 73 rfl (fun h73 => ?_) (fun h73 => ?_)
      ·rw [h73]
       replace h73 := of_decide_eq_true h73
       refine GL.guardF rfl ?_
       refine GL.guardF rfl ?_
       refine GL.pick I0.mono rfl (by conv => lhs; whnf) ?_
       refine GL.move I0.mono (by conv => lhs; whnf) ?_
       refine GL.guardF rfl ?_
       refine GL.guardF rfl ?_
       refine GL.guardF rfl ?_
       refine GL.guardF rfl ?_
       refine GL.pick I0.mono rfl (by conv => lhs; whnf) ?_
       refine GL.doneF ?_
       refine goOn ?_
       refine Wp.condT rfl ?_
       refine Wp.seqI ?_
       refine Wp.regI I0.mono ?_
       refine GL.buildS I0.mono (z := [LV.nils, LV.nils, LV.int .i64 0, LV.int .i64 0]) (cs := [_, _, _, _]) (n := 4) rfl rfl rfl (EvS.nil) rfl rfl ?_
       refine GL.storeW I0.mono (n := 4) rfl rfl rfl rfl rfl rfl rfl (by conv => lhs; whnf) rfl rfl rfl ?_
       refine GL.assign I0.mono (by conv => lhs; whnf) ?_
       refine GL.doneF ?_
       refine goOn ?_
       refine Wp.retI ?_
       refine thenX.ret ?_
       refine blockX.ret ?_
       refine thenX.ret ?_
       refine thenX.ret ?_
       refine blockX.ret ?_
       refine thenX.ret ?_
       refine RetX.ret ?_
       refine ⟨_, _, _, _, .cons (.cellA (n := 4) rfl rfl rfl (by simp) rfl rfl rfl (Nat.le_of_ble_eq_true rfl)) (.cons (.tmp rfl) .nil), .tup (.aggc (.aggc (by exact Exp.nils (sz := 1)) (.aggc (by exact Exp.nils (sz := 1)) (.aggc (.frz (.pure rfl)) (.aggc (.frz (.pure rfl)) .aggn)))) (.aggc (.frz (.pure rfl)) .aggn)), (by decide), by simp, ?_⟩
       first
       | (rw [eval_out (by first | exact .inl h19 | exact .inr (.inl h26) | exact .inr (.inr (by simpa using h31)))]; rfl)
       | (rw [eval_in h19 h26 (by simpa using h31) (hE.trans (by rw [drop_getD (by omega), evalGo, if_pos (by exact .inl h73)]))]; rfl)
       | (rw [eval_in h19 h26 (by simpa using h31) (hE.trans (by rw [drop_all (by omega), evalGo, if_pos (show wadd _ _ > _ from h112)]))]; rfl)
       | (rw [eval_in h19 h26 (by simpa using h31) (hE.trans (by rw [drop_all (by omega), evalGo, if_neg (show ¬ wadd _ _ > _ from h112)]))]; rfl)
      
      ·rw [h73]
       replace h73 := of_decide_eq_false h73
       refine GL.guardT rfl ?_
       refine GL.move I0.mono (by conv => lhs; whnf) ?_
       refine GL.guardT rfl ?_
       refine GL.bin I0.mono rfl ?_
       refine GL.pick I0.mono rfl (by conv => lhs; whnf) ?_
       refine GL.move I0.mono (by conv => lhs; whnf) ?_
       refine GL.splitAt 77 rfl (fun h77 => ?_) (fun h77 => ?_)
       ·rw [h77]
        replace h77 := of_decide_eq_true h77
        refine GL.guardF rfl ?_
        refine GL.guardF rfl ?_
        refine GL.guardF rfl ?_
        refine GL.guardF rfl ?_
        refine GL.pick I0.mono rfl (by conv => lhs; whnf) ?_
        refine GL.doneF ?_
        refine goOn ?_
        refine Wp.condT rfl ?_
        refine Wp.seqI ?_
        refine Wp.regI I0.mono ?_
        refine GL.buildS I0.mono (z := [LV.nils, LV.nils, LV.int .i64 0, LV.int .i64 0]) (cs := [_, _, _, _]) (n := 4) rfl rfl rfl (EvS.nil) rfl rfl ?_
        refine GL.storeW I0.mono (n := 4) rfl rfl rfl rfl rfl rfl rfl (by conv => lhs; whnf) rfl rfl rfl ?_
        refine GL.assign I0.mono (by conv => lhs; whnf) ?_
        refine GL.doneF ?_
        refine goOn ?_
        refine Wp.retI ?_
        refine thenX.ret ?_
        refine blockX.ret ?_
        refine thenX.ret ?_
        refine thenX.ret ?_
        refine blockX.ret ?_
        refine thenX.ret ?_
        refine RetX.ret ?_
        refine ⟨_, _, _, _, .cons (.cellA (n := 4) rfl rfl rfl (by simp) rfl rfl rfl (Nat.le_of_ble_eq_true rfl)) (.cons (.tmp rfl) .nil), .tup (.aggc (.aggc (by exact Exp.nils (sz := 1)) (.aggc (by exact Exp.nils (sz := 1)) (.aggc (.frz (.pure rfl)) (.aggc (.frz (.pure rfl)) .aggn)))) (.aggc (.frz (.pure rfl)) .aggn)), (by decide), by simp, ?_⟩
        first
        | (rw [eval_out (by first | exact .inl h19 | exact .inr (.inl h26) | exact .inr (.inr (by simpa using h31)))]; rfl)
        | (rw [eval_in h19 h26 (by simpa using h31) (hE.trans (by rw [drop_getD (by omega), evalGo, if_pos (by exact .inr (.inl h77))]))]; rfl)
        | (rw [eval_in h19 h26 (by simpa using h31) (hE.trans (by rw [drop_all (by omega), evalGo, if_pos (show wadd _ _ > _ from h112)]))]; rfl)
        | (rw [eval_in h19 h26 (by simpa using h31) (hE.trans (by rw [drop_all (by omega), evalGo, if_neg (show ¬ wadd _ _ > _ from h112)]))]; rfl)
       
       ·rw [h77]
        replace h77 := of_decide_eq_false h77
        refine GL.guardT rfl ?_
        refine GL.move I0.mono (by conv => lhs; whnf) ?_
        refine GL.guardT rfl ?_
        refine GL.fieldAddr I0.mono (o := 0) rfl rfl rfl rfl (by conv => lhs; whnf) ?_
        refine GL.guardT rfl ?_
        refine GL.load I0.mono rfl rfl rfl rfl (by simp) rfl rfl ?_
        refine GL.guardT rfl ?_
        refine GL.bin I0.mono rfl ?_
        refine GL.pick I0.mono rfl (by conv => lhs; whnf) ?_
        refine GL.doneF ?_
        refine goOn ?_
        refine Wp.condI rfl (fun h82 => ?_) (fun h82 => ?_)
        ·replace h82 := of_decide_eq_true h82
         refine Wp.seqI ?_
         refine Wp.regI I0.mono ?_
         refine GL.buildS I0.mono (z := [LV.nils, LV.nils, LV.int .i64 0, LV.int .i64 0]) (cs := [_, _, _, _]) (n := 4) rfl rfl rfl (EvS.nil) rfl rfl ?_
         refine GL.storeW I0.mono (n := 4) rfl rfl rfl rfl rfl rfl rfl (by conv => lhs; whnf) rfl rfl rfl ?_
         refine GL.assign I0.mono (by conv => lhs; whnf) ?_
         refine GL.doneF ?_
         refine goOn ?_
         refine Wp.retI ?_
         refine thenX.ret ?_
         refine blockX.ret ?_
         refine thenX.ret ?_
         refine thenX.ret ?_
         refine blockX.ret ?_
         refine thenX.ret ?_
         refine RetX.ret ?_
         refine ⟨_, _, _, _, .cons (.cellA (n := 4) rfl rfl rfl (by simp) rfl rfl rfl (Nat.le_of_ble_eq_true rfl)) (.cons (.tmp rfl) .nil), .tup (.aggc (.aggc (by exact Exp.nils (sz := 1)) (.aggc (by exact Exp.nils (sz := 1)) (.aggc (.frz (.pure rfl)) (.aggc (.frz (.pure rfl)) .aggn)))) (.aggc (.frz (.pure rfl)) .aggn)), (by decide), by simp, ?_⟩
         first
         | (rw [eval_out (by first | exact .inl h19 | exact .inr (.inl h26) | exact .inr (.inr (by simpa using h31)))]; rfl)
         | (rw [eval_in h19 h26 (by simpa using h31) (hE.trans (by rw [drop_getD (by omega), evalGo, if_pos (by exact .inr (.inr h82))]))]; rfl)
         | (rw [eval_in h19 h26 (by simpa using h31) (hE.trans (by rw [drop_all (by omega), evalGo, if_pos (show wadd _ _ > _ from h112)]))]; rfl)
         | (rw [eval_in h19 h26 (by simpa using h31) (hE.trans (by rw [drop_all (by omega), evalGo, if_neg (show ¬ wadd _ _ > _ from h112)]))]; rfl)
        
        ·replace h82 := of_decide_eq_false h82
         refine Wp.skipI ?_
         refine goOn ?_
         refine Wp.seqI ?_
         refine Wp.regD ?_
         refine GL.fieldAddr I0.mono (o := 0) rfl rfl rfl rfl (by conv => lhs; whnf) ?_
         refine GL.load I0.mono rfl rfl rfl rfl (by simp) rfl rfl ?_
         refine GL.move I0.mono (by conv => lhs; whnf) ?_
         refine GL.buildSlice0 I0.mono (sz := 1) (z := [LV.int .i64 0]) rfl rfl rfl rfl (by decide) (by decide) (by decide) (FrzP.cons (S := []) (T := []) (Frz.aggc (S := []) (T := []) (Frz.pure rfl) Frz.aggn) rfl (by decide) rfl (FrzP.nil)) (by conv => lhs; simp only [fillE, List.replicate, List.map, pureC, List.set_cons_zero, List.set_cons_succ]) ?_
         intro g87
         refine GL.append1 I0.mono (sz := 1) (z := [.int .i64 0]) rfl rfl rfl rfl rfl (by decide) (Nat.le_of_ble_eq_true rfl) rfl rfl rfl rfl rfl rfl rfl (by omega) rfl rfl rfl rfl rfl rfl rfl rfl (by omega) ?_
         refine GL.fieldAddr I0.mono (o := 1) rfl rfl rfl rfl (by conv => lhs; whnf) ?_
         refine GL.load I0.mono rfl rfl rfl rfl (by simp) rfl rfl ?_
         refine GL.move I0.mono (by conv => lhs; whnf) ?_
         refine GL.buildSlice0 I0.mono (sz := 1) (z := [LV.int .i64 0]) rfl rfl rfl rfl (by decide) (by decide) (by decide) (FrzP.cons (S := []) (T := []) (Frz.aggc (S := []) (T := []) (Frz.pure rfl) Frz.aggn) rfl (by decide) rfl (FrzP.nil)) (by conv => lhs; simp only [fillE, List.replicate, List.map, pureC, List.set_cons_zero, List.set_cons_succ]) ?_
         intro g92
         refine GL.append1 I0.mono (sz := 1) (z := [.int .i64 0]) rfl rfl rfl rfl rfl (by decide) (Nat.le_of_ble_eq_true rfl) rfl rfl rfl rfl rfl rfl rfl (by omega) rfl rfl rfl rfl rfl rfl rfl rfl (by omega) ?_
         refine GL.fieldAddr I0.mono (o := 0) rfl rfl rfl rfl (by conv => lhs; whnf) ?_
         refine GL.store I0.mono (n := 1) rfl rfl rfl rfl rfl rfl rfl rfl rfl rfl (Nat.le_of_ble_eq_true rfl) (by (conv => lhs; simp only [List.take_succ_cons, List.take_zero, List.drop_succ_cons, List.drop_zero, List.nil_append, List.cons_append, List.drop_nil, List.append_nil, List.take_nil, List.set_cons_zero, List.set_cons_succ, Nat.zero_add, ni, nr, nc, ns, np, ic])) (by (conv => lhs; simp only [List.take_succ_cons, List.take_zero, List.drop_succ_cons, List.drop_zero, List.nil_append, List.cons_append, List.drop_nil, List.append_nil, List.take_nil, List.set_cons_zero, List.set_cons_succ, Nat.zero_add, ni, nr, nc, ns, np, ic])) ?_
         refine GL.fieldAddr I0.mono (o := 1) rfl rfl rfl rfl (by conv => lhs; whnf) ?_
         refine GL.store I0.mono (n := 1) rfl rfl rfl rfl rfl rfl rfl rfl rfl rfl (Nat.le_of_ble_eq_true rfl) (by (conv => lhs; simp only [List.take_succ_cons, List.take_zero, List.drop_succ_cons, List.drop_zero, List.nil_append, List.cons_append, List.drop_nil, List.append_nil, List.take_nil, List.set_cons_zero, List.set_cons_succ, Nat.zero_add, ni, nr, nc, ns, np, ic])) (by (conv => lhs; simp only [List.take_succ_cons, List.take_zero, List.drop_succ_cons, List.drop_zero, List.nil_append, List.cons_append, List.drop_nil, List.append_nil, List.take_nil, List.set_cons_zero, List.set_cons_succ, Nat.zero_add, ni, nr, nc, ns, np, ic])) ?_
         refine GL.doneT (by kernel_rfl) ?_
         refine goOn ?_
         refine Wp.regD ?_
         refine GL.move I0.mono (by conv => lhs; whnf) ?_
         refine GL.move I0.mono (by conv => lhs; whnf) ?_
         refine GL.fieldAddr I0.mono (o := 3) rfl rfl rfl rfl (by conv => lhs; whnf) ?_
         refine GL.load I0.mono rfl rfl rfl rfl (by simp) rfl rfl ?_
         refine GL.bin I0.mono rfl ?_
         refine GL.assign I0.mono (by conv => lhs; whnf) ?_
         refine GL.assign I0.mono (by conv => lhs; whnf) ?_
         refine GL.doneT (by kernel_rfl) ?_
         refine blockX.normal ?_
         refine goOn ?_
         refine Wp.regI I0.mono ?_
         refine GL.addR I0.mono rfl rfl (by omega) ?_
         refine GL.move I0.mono (by conv => lhs; whnf) ?_
         refine GL.doneF ?_
         refine ⟨⟨k + 1, _, _, _, _, _, _, _⟩, (by dsimp only; omega), _, (LessS.weak (LessS.upd (LessS.upd (LessS.upd (LessS.upd (LessS.upd (LessS.upd (LessS.upd (LessS.upd (LessS.upd (LessS.upd (LessS.nil _) rfl) rfl) rfl) rfl) rfl) rfl) rfl) rfl) rfl) rfl) _), ⟨by omega, by rw [hE, drop_getD (by omega), evalGo, if_neg (by rintro (h | h | h) <;> first | exact h73 h | exact h77 h | exact h82 h)]; rfl, by omega, by simp [hss], by simp [hls]⟩, _, (congrArg (St.mk _) (effM_eq (Has.cons rfl (Has.cons rfl (Has.cons rfl (Has.cons rfl (Has.cons rfl (Has.cons rfl Has.nil))))))).symm)⟩
     ·replace h47 := of_decide_eq_false h47
      refine Wp.exitI ?_
      refine thenX.exit ?_
      refine thenX.exit ?_
      refine blockX.out ?_
      refine goOn ?_
      refine Wp.seqI ?_
      refine Wp.regI I0.mono ?_
      refine GL.move I0.mono (by conv => lhs; whnf) ?_
      refine GL.loadW I0.mono (n := 4) rfl rfl rfl rfl (by simp) rfl rfl rfl ?_
      refine GL.move I0.mono (by conv => lhs; whnf) ?_
      refine GL.call0 I0.mono rfl (Frz.aggc (by exact Frz.pures rfl) (Frz.aggc (by exact Frz.pure rfl) (Frz.aggc (by exact Frz.pure rfl) (Frz.aggn)))) (way_ok i hs _ _ (by omega) (by omega)) rfl rfl (fun _ => rfl) ?_
      refine GL.bin I0.mono rfl ?_
      refine GL.fieldAddr I0.mono (o := 3) rfl rfl rfl rfl (by conv => lhs; whnf) ?_
      refine GL.store I0.mono (n := 1) rfl rfl rfl rfl rfl rfl rfl rfl rfl rfl (Nat.le_of_ble_eq_true rfl) (by (conv => lhs; simp only [List.take_succ_cons, List.take_zero, List.drop_succ_cons, List.drop_zero, List.nil_append, List.cons_append, List.drop_nil, List.append_nil, List.take_nil, List.set_cons_zero, List.set_cons_succ, Nat.zero_add, ni, nr, nc, ns, np, ic])) (by (conv => lhs; simp only [List.take_succ_cons, List.take_zero, List.drop_succ_cons, List.drop_zero, List.nil_append, List.cons_append, List.drop_nil, List.append_nil, List.take_nil, List.set_cons_zero, List.set_cons_succ, Nat.zero_add, ni, nr, nc, ns, np, ic])) ?_
      refine GL.doneF ?_
      refine goOn ?_
      refine Wp.seqI ?_
      refine Wp.seqI ?_
      refine Wp.regI I0.mono ?_
      refine GL.fieldAddr I0.mono (o := 3) rfl rfl rfl rfl (by conv => lhs; whnf) ?_
      refine GL.load I0.mono rfl rfl rfl rfl (by simp) rfl rfl ?_
      refine GL.fieldAddr I0.mono (o := 2) rfl rfl rfl rfl (by conv => lhs; whnf) ?_
      refine GL.load I0.mono rfl rfl rfl rfl (by simp) rfl rfl ?_
      refine GL.bin I0.mono rfl ?_
      refine GL.doneF ?_
      refine goOn ?_
      refine Wp.condI rfl (fun h112 => ?_) (fun h112 => ?_)
      ·replace h112 := of_decide_eq_true h112
       refine Wp.seqI ?_
       refine Wp.regI I0.mono ?_
       refine GL.buildS I0.mono (z := [LV.nils, LV.nils, LV.int .i64 0, LV.int .i64 0]) (cs := [_, _, _, _]) (n := 4) rfl rfl rfl (EvS.nil) rfl rfl ?_
       refine GL.storeW I0.mono (n := 4) rfl rfl rfl rfl rfl rfl rfl (by conv => lhs; whnf) rfl rfl rfl ?_
       refine GL.assign I0.mono (by conv => lhs; whnf) ?_
       refine GL.doneF ?_
       refine goOn ?_
       refine Wp.retI ?_
       refine thenX.ret ?_
       refine RetX.ret ?_
       refine ⟨_, _, _, _, .cons (.cellA (n := 4) rfl rfl rfl (by simp) rfl rfl rfl (Nat.le_of_ble_eq_true rfl)) (.cons (.tmp rfl) .nil), .tup (.aggc (.aggc (by exact Exp.nils (sz := 1)) (.aggc (by exact Exp.nils (sz := 1)) (.aggc (.frz (.pure rfl)) (.aggc (.frz (.pure rfl)) .aggn)))) (.aggc (.frz (.pure rfl)) .aggn)), (by decide), by simp, ?_⟩
       first
       | (rw [eval_out (by first | exact .inl h19 | exact .inr (.inl h26) | exact .inr (.inr (by simpa using h31)))]; rfl)
       | (rw [eval_in h19 h26 (by simpa using h31) (hE.trans (by rw [drop_getD (by omega), evalGo, if_pos (by first | exact .inl h73 | exact .inr (.inl h77) | exact .inr (.inr h82))]))]; rfl)
       | (rw [eval_in h19 h26 (by simpa using h31) (hE.trans (by rw [drop_all (by omega), evalGo, if_pos (show wadd _ _ > _ from h112)]))]; rfl)
       | (rw [eval_in h19 h26 (by simpa using h31) (hE.trans (by rw [drop_all (by omega), evalGo, if_neg (show ¬ wadd _ _ > _ from h112)]))]; rfl)
      
      ·replace h112 := of_decide_eq_false h112
       refine Wp.skipI ?_
       refine goOn ?_
       refine Wp.seqI ?_
       refine Wp.regI I0.mono ?_
       refine GL.loadW I0.mono (n := 4) rfl rfl rfl rfl (by simp) rfl rfl rfl ?_
       refine GL.storeW I0.mono (n := 4) rfl rfl rfl rfl rfl rfl rfl (by conv => lhs; whnf) rfl rfl rfl ?_
       refine GL.assign I0.mono (by conv => lhs; whnf) ?_
       refine GL.doneF ?_
       refine goOn ?_
       refine Wp.retI ?_
       refine RetX.ret ?_
       refine ⟨_, _, _, _, .cons (.cellA (n := 4) rfl rfl rfl (by simp) rfl rfl rfl (Nat.le_of_ble_eq_true rfl)) (.cons (.tmp rfl) .nil), .tup (.aggc (.aggc (by exact Exp.slo rfl rfl rfl rfl (by rw [em_len]; omega)) (.aggc (by exact Exp.slo rfl rfl rfl rfl (by rw [em_len]; omega)) (.aggc (.frz (.pure rfl)) (.aggc (.frz (.pure rfl)) .aggn)))) (.aggc (.frz (.pure rfl)) .aggn)), (by decide), by simp, ?_⟩
       first
       | (rw [eval_out (by first | exact .inl h19 | exact .inr (.inl h26) | exact .inr (.inr (by simpa using h31)))]; rfl)
       | (rw [eval_in h19 h26 (by simpa using h31) (hE.trans (by rw [drop_getD (by omega), evalGo, if_pos (by first | exact .inl h73 | exact .inr (.inl h77) | exact .inr (.inr h82))]))]; rfl)
       | (rw [eval_in h19 h26 (by simpa using h31) (hE.trans (by rw [drop_all (by omega), evalGo, if_pos (show wadd _ _ > _ from h112)]))]; rfl)
       | (rw [eval_in h19 h26 (by simpa using h31) (hE.trans (by rw [drop_all (by omega), evalGo, if_neg (show ¬ wadd _ _ > _ from h112)]))]; rfl)
      


theorem eval_ok (i : Inst) (hs : i.Short) (car : Int) (l : List Int) (hl : Short l) : CallsV Try.prog 79 [ei i, .int .i64 car, .sl (em ni l)] (tripR (eval i car l)) := (eval_own i hs car l hl).freeze rfl

set_option maxRecDepth 100000 in
set_option maxHeartbeats 4000000 in
theorem num_ok (z : List Int) (hz : Ints z) (k : Int) (hk : 0 ≤ k) (hk1 : k < 1000000) : CallsV Try.prog 126 [.sl (em ni z), .int .i64 k] (.int .i64 (num z k)) := by
  refine CallsR.intro (I0.sound _) mix Try.func126 rfl rfl (by simp [Try.f126]) (by kernel_rfl) (nb := 0) ?_
  unfold Try.f126
  refine Wp.seqI ?_
  refine Wp.regI I0.mono ?_
  refine GL.assign I0.mono (by conv => lhs; whnf) ?_
  refine GL.doneF ?_
  refine goOn ?_
  refine Wp.seqI ?_
  refine Wp.seqI ?_
  refine Wp.regI I0.mono ?_
  refine GL.move I0.mono (by conv => lhs; whnf) ?_
  refine GL.lenF I0.mono rfl rfl (em_len _ _) ?_
  refine GL.bin I0.mono rfl ?_
  refine GL.doneF ?_
  refine goOn ?_
  refine Wp.condI rfl (fun h7 => ?_) (fun h7 => ?_)
  ·replace h7 := of_decide_eq_true h7
   refine Wp.seqI ?_
   refine Wp.regI I0.mono ?_
   refine GL.move I0.mono (by conv => lhs; whnf) ?_
   refine GL.mulR I0.mono rfl rfl (by omega) ?_
   refine GL.assign I0.mono (by conv => lhs; whnf) ?_
   refine GL.doneF ?_
   refine goOn ?_
   refine Wp.retI ?_
   refine thenX.ret ?_
   refine RetX.ret ?_
   refine ⟨_, _, _, _, .cons (.tmp rfl) .nil, .frz (.pure rfl), List.nodup_nil, by simp, ?_⟩
   show LV.int _ _ = LV.int _ _
   congr 1
   unfold num
   (rw [if_pos (by omega)]; done)
  ·replace h7 := of_decide_eq_false h7
   have hlm := hz.len
   have hl : 0 < (z.length : Int) := by omega
   have q1 := Int.tdiv_nonneg hk (Int.le_of_lt hl)
   have q2 := Int.tdiv_le_self (z.length : Int) hk
   have m1 := Int.tmod_nonneg (z.length : Int) hk
   have m2 := Int.tmod_lt_of_pos k hl
   have hx := hz.at (k.tmod z.length).toNat
   unfold In at hx
   refine Wp.skipI ?_
   refine goOn ?_
   refine Wp.seqI ?_
   refine Wp.regD ?_
   refine GL.move I0.mono (by conv => lhs; whnf) ?_
   refine GL.move I0.mono (by conv => lhs; whnf) ?_
   refine GL.move I0.mono (by conv => lhs; whnf) ?_
   refine GL.lenF I0.mono rfl rfl (em_len _ _) ?_
   refine GL.remR I0.mono rfl rfl (by omega) ?_
   refine GL.indexAddrF I0.mono (sz := 1) rfl rfl rfl rfl (by omega) (by (rw [em_len]; omega)) (by intro e he; obtain ⟨a, -, rfl⟩ := List.mem_map.1 he; rfl) (by rfl) ?_
   refine GL.loadF I0.mono rfl rfl (em_get (by omega)) rfl ?_
   refine GL.move I0.mono (by conv => lhs; whnf) ?_
   refine GL.move I0.mono (by conv => lhs; whnf) ?_
   refine GL.lenF I0.mono rfl rfl (em_len _ _) ?_
   refine GL.quoR I0.mono rfl rfl (by omega) ?_
   refine GL.addR I0.mono rfl rfl (by omega) ?_
   refine GL.quoR I0.mono rfl rfl (by omega) ?_
   refine GL.move I0.mono (by conv => lhs; whnf) ?_
   refine GL.move I0.mono (by conv => lhs; whnf) ?_
   refine GL.lenF I0.mono rfl rfl (em_len _ _) ?_
   refine GL.quoR I0.mono rfl rfl (by omega) ?_
   refine GL.bin I0.mono rfl ?_
   refine GL.assign I0.mono (by conv => lhs; whnf) ?_
   refine GL.doneT (by kernel_rfl) ?_
   refine goOn ?_
   refine Wp.retI ?_
   refine RetX.ret ?_
   refine ⟨_, _, _, _, .cons (.tmp rfl) .nil, .frz (.pure rfl), List.nodup_nil, by simp, ?_⟩
   show LV.int _ _ = LV.int _ _
   congr 1
   unfold num
   (rw [if_neg (by omega)]; rfl)

/-- An instance that is handed over whole. -/
def eio (i : Inst) : LV := .agg [.slo 3 (em nc i.cars), .slo 4 (em ns i.stops), .slo 2 (em np i.pairs), .slo 1 (em nr i.travel)]
theorem le900 (j : Nat) : 0 ≤ ([900, 60, 25, 8] : List Int).getD j default ∧ ([900, 60, 25, 8] : List Int).getD j default ≤ 900 := by
  match j with
  | 0 => decide
  | 1 => decide
  | 2 => decide
  | 3 => decide
  | j + 4 => show (0 : Int) ≤ 0 ∧ (0 : Int) ≤ 900; decide
theorem wi4 (a : Int) : (within a 4).toNat < 4 := by
  have := within_in (a := a) (n := 4) (by decide)
  omega

set_option maxRecDepth 100000 in
set_option maxHeartbeats 4000000 in
theorem inst_own (z : List Int) (hz : Ints z) : CallsV Try.prog 81 [.sl (em ni z)] (eio (instOf z)) := by
  refine CallsR.intro (I0.sound _) mix Try.func81 rfl rfl (by simp [Try.f81]) (by kernel_rfl) (nb := 0) ?_
  unfold Try.f81
  refine Wp.seqI ?_
  refine Wp.regI I0.mono ?_
  refine GL.alloc I0.mono (cs := [LV.nils, LV.nils, LV.nils, LV.nils]) rfl rfl ?_
  intro g2
  refine GL.doneF ?_
  refine goOn ?_
  refine Wp.seqI ?_
  refine Wp.regI I0.mono ?_
  refine GL.assign I0.mono (by conv => lhs; whnf) ?_
  refine GL.doneF ?_
  refine goOn ?_
  refine Wp.seqI ?_
  refine Wp.regI I0.mono ?_
  refine GL.alloc I0.mono (cs := [LV.nils, LV.nils, LV.nils, LV.nils]) rfl rfl ?_
  intro g4
  refine GL.doneF ?_
  refine goOn ?_
  refine Wp.seqI ?_
  refine Wp.seqI ?_
  refine Wp.regI I0.mono ?_
  refine GL.assign I0.mono (by conv => lhs; whnf) ?_
  refine GL.doneF ?_
  refine goWeak (Weak.trans (Weak.nilCell (n := 256) (c := 0) 700001 3 rfl rfl rfl rfl rfl rfl) (Weak.trans (Weak.nilCell (n := 256) (c := 1) 700002 4 rfl rfl rfl rfl rfl rfl) (Weak.trans (Weak.nilCell (n := 256) (c := 2) 700003 2 rfl rfl rfl rfl rfl rfl) (Weak.nilCell (n := 256) (c := 3) 700004 1 rfl rfl rfl rfl rfl rfl)))) ?_
  refine Wp.blockI ?_
  refine Wp.loopI I0.mono (α := Nat × Nat × Nat × Nat × Nat) (fun ⟨k, ga, gb, gc, gd⟩ st => (k ≤ nCars z) ∧ ∃ m0, st = ⟨(updS (updS (updS (updS (updS (fun _ => LV.undef) 0 (.sl (em ni z))) 2 (.ref 128 g2 0 0)) 3 (.fn 14 [])) 4 (.ref 256 g4 0 0)) 5 (.int .i64 (k : Int))), effM m0 [(128, ⟨g2, false, .var, 4, [[.nils, .nils, .nils, .nils]]⟩), (256, ⟨g4, false, .var, 4, [[.own 700001 ga 0 k none, .own 700002 gb 0 0 none, .own 700003 gc 0 0 none, .own 700004 gd 0 0 none]]⟩), (700001, ⟨ga, false, .slc, 3, em nc (cars z k)⟩), (700002, ⟨gb, false, .slc, 4, []⟩), (700003, ⟨gc, false, .slc, 2, []⟩), (700004, ⟨gd, false, .slc, 1, []⟩)]⟩) (fun ⟨k, ga, gb, gc, gd⟩ => nCars z - k) ⟨0, _, _, _, _⟩ ⟨_, (LessS.weak (LessS.upd (LessS.upd (LessS.upd (LessS.upd (LessS.upd (LessS.nil _) rfl) rfl) rfl) rfl) rfl) _), (Nat.zero_le _), _, (congrArg (St.mk _) (effM_eq (Has.cons rfl (Has.cons rfl (Has.cons rfl (Has.cons rfl (Has.cons rfl (Has.cons rfl Has.nil))))))).symm)⟩ ?_
  rintro ⟨k, ga, gb, gc, gd⟩ _ ⟨hi, m0, rfl⟩
  have hw0 := within_in (a := num z 0) (n := 3) (by decide)
  have hnc : nCars z = (1 + within (num z 0) 3).toNat := rfl
  refine Wp.seqI ?_
  refine Wp.seqI ?_
  refine Wp.regI I0.mono ?_
  refine GL.move I0.mono (by conv => lhs; whnf) ?_
  refine GL.move I0.mono (by conv => lhs; whnf) ?_
  refine GL.move I0.mono (by conv => lhs; whnf) ?_
  refine GL.call0 I0.mono rfl (Frz.aggc (by exact Frz.pure rfl) (Frz.aggc (by exact Frz.pure rfl) (Frz.aggn))) (num_ok z hz _ (by omega) (by omega)) rfl rfl (fun _ => rfl) ?_
  refine GL.call0 I0.mono rfl (Frz.aggc (by exact Frz.pure rfl) (Frz.aggc (by exact Frz.pure rfl) (Frz.aggn))) (within_ok _ 3 (by decide)) rfl rfl (fun _ => rfl) ?_
  refine GL.addR I0.mono rfl rfl (by omega) ?_
  refine GL.bin I0.mono rfl ?_
  refine GL.doneF ?_
  refine goOn ?_
  refine Wp.condI rfl (fun h25 => ?_) (fun h25 => ?_)
  ·replace h25 := of_decide_eq_true h25
   have hs := num_in z (k := 1 + (k : Int)) (by omega) (by omega)
   unfold In at hs
   refine Wp.skipI ?_
   refine goOn ?_
   refine Wp.seqI ?_
   refine Wp.blockI ?_
   refine Wp.seqI ?_
   refine Wp.regI I0.mono ?_
   refine GL.move I0.mono (by conv => lhs; whnf) ?_
   refine GL.move I0.mono (by conv => lhs; whnf) ?_
   refine GL.addR I0.mono rfl rfl (by omega) ?_
   refine GL.call0 I0.mono rfl (Frz.aggc (by exact Frz.pure rfl) (Frz.aggc (by exact Frz.pure rfl) (Frz.aggn))) (num_ok z hz _ (by omega) (by omega)) rfl rfl (fun _ => rfl) ?_
   refine GL.assign I0.mono (by conv => lhs; whnf) ?_
   refine GL.doneF ?_
   refine goOn ?_
   refine Wp.regD ?_
   refine GL.fieldAddr I0.mono (o := 0) rfl rfl rfl rfl (by conv => lhs; whnf) ?_
   refine GL.load I0.mono rfl rfl rfl rfl (by simp) (by rfl) rfl ?_
   refine GL.buildSlice0 I0.mono (sz := 1) (z := [LV.int .i64 0]) (es := em ni [20, 60, 9, 30]) rfl rfl rfl rfl (by decide) (by decide) (by decide) (FrzP.cons (S := []) (T := []) (Frz.aggc (S := []) (T := []) (Frz.pure rfl) Frz.aggn) rfl (by decide) rfl (FrzP.cons (S := []) (T := []) (Frz.aggc (S := []) (T := []) (Frz.pure rfl) Frz.aggn) rfl (by decide) rfl (FrzP.cons (S := []) (T := []) (Frz.aggc (S := []) (T := []) (Frz.pure rfl) Frz.aggn) rfl (by decide) rfl (FrzP.cons (S := []) (T := []) (Frz.aggc (S := []) (T := []) (Frz.pure rfl) Frz.aggn) rfl (by decide) rfl (FrzP.nil))))) rfl ?_
   intro g34
   refine GL.move I0.mono (by conv => lhs; whnf) ?_
   refine GL.move I0.mono (by conv => lhs; whnf) ?_
   refine GL.call0 I0.mono rfl (Frz.aggc (by exact Frz.pure rfl) (Frz.aggc (by exact Frz.pure rfl) (Frz.aggn))) (within_ok _ 4 (by decide)) rfl rfl (fun _ => rfl) ?_
   refine GL.indexAddr I0.mono (sz := 1) rfl rfl rfl rfl rfl rfl rfl rfl (by exact (within_in (by decide)).1) (by exact (within_in (by decide)).2) (by (conv => lhs; simp only [Nat.zero_add, Int.toNat_natCast])) ?_
   refine GL.load I0.mono rfl rfl rfl rfl (by simp) (by exact em_get (show _ < 4 from wi4 _)) rfl ?_
   refine GL.move I0.mono (by conv => lhs; whnf) ?_
   refine GL.move I0.mono (by conv => lhs; whnf) ?_
   refine GL.quoR I0.mono rfl rfl (by omega) ?_
   refine GL.call0 I0.mono rfl (Frz.aggc (by exact Frz.pure rfl) (Frz.aggc (by exact Frz.pure rfl) (Frz.aggn))) (within_ok _ 9 (by decide)) rfl rfl (fun _ => rfl) ?_
   refine GL.buildSlice0 I0.mono (sz := 1) (z := [LV.int .i64 0]) (es := em ni [1000, 200, 90, 60]) rfl rfl rfl rfl (by decide) (by decide) (by decide) (FrzP.cons (S := []) (T := []) (Frz.aggc (S := []) (T := []) (Frz.pure rfl) Frz.aggn) rfl (by decide) rfl (FrzP.cons (S := []) (T := []) (Frz.aggc (S := []) (T := []) (Frz.pure rfl) Frz.aggn) rfl (by decide) rfl (FrzP.cons (S := []) (T := []) (Frz.aggc (S := []) (T := []) (Frz.pure rfl) Frz.aggn) rfl (by decide) rfl (FrzP.cons (S := []) (T := []) (Frz.aggc (S := []) (T := []) (Frz.pure rfl) Frz.aggn) rfl (by decide) rfl (FrzP.nil))))) rfl ?_
   intro g44
   refine GL.move I0.mono (by conv => lhs; whnf) ?_
   refine GL.move I0.mono (by conv => lhs; whnf) ?_
   refine GL.quoR I0.mono rfl rfl (by omega) ?_
   refine GL.call0 I0.mono rfl (Frz.aggc (by exact Frz.pure rfl) (Frz.aggc (by exact Frz.pure rfl) (Frz.aggn))) (within_ok _ 4 (by decide)) rfl rfl (fun _ => rfl) ?_
   refine GL.indexAddr I0.mono (sz := 1) rfl rfl rfl rfl rfl rfl rfl rfl (by exact (within_in (by decide)).1) (by exact (within_in (by decide)).2) (by (conv => lhs; simp only [Nat.zero_add, Int.toNat_natCast])) ?_
   refine GL.load I0.mono rfl rfl rfl rfl (by simp) (by exact em_get (show _ < 4 from wi4 _)) rfl ?_
   refine GL.buildS I0.mono (z := [LV.int .i64 0, LV.int .i64 0, LV.int .i64 0]) (cs := [_, _, _]) (n := 3) rfl rfl rfl (EvS.cons (by conv => lhs; whnf) (EvS.cons (by conv => lhs; whnf) (EvS.cons (by conv => lhs; whnf) (EvS.nil)))) rfl rfl ?_
   refine GL.buildSlice0 I0.mono (sz := 3) (z := [LV.int .i64 0, LV.int .i64 0, LV.int .i64 0]) rfl rfl rfl rfl (by decide) (by decide) (by decide) (FrzP.cons (S := []) (T := []) (Frz.pures rfl) rfl (by decide) rfl (FrzP.nil)) (by conv => lhs; simp only [fillE, List.replicate, List.map, pureC, List.set_cons_zero, List.set_cons_succ]) ?_
   intro g52
   refine GL.append1 I0.mono (f := nc) (v := carOf z k) (sz := 3) (z := [.int .i64 0, .int .i64 0, .int .i64 0]) rfl rfl rfl rfl rfl (by decide) (Nat.le_of_ble_eq_true rfl) rfl rfl rfl rfl rfl rfl rfl (cars_len z k).symm rfl rfl rfl rfl rfl rfl rfl rfl (by omega) ?_
   rw [← cars_succ]
   refine GL.fieldAddr I0.mono (o := 0) rfl rfl rfl rfl (by conv => lhs; whnf) ?_
   refine GL.store I0.mono (n := 1) rfl rfl rfl rfl rfl rfl rfl rfl rfl rfl (Nat.le_of_ble_eq_true rfl) (by (conv => lhs; simp only [List.take_succ_cons, List.take_zero, List.drop_succ_cons, List.drop_zero, List.nil_append, List.cons_append, List.drop_nil, List.append_nil, List.take_nil, List.set_cons_zero, List.set_cons_succ, Nat.zero_add, ni, nr, nc, ns, np, ic])) (by (conv => lhs; simp only [List.take_succ_cons, List.take_zero, List.drop_succ_cons, List.drop_zero, List.nil_append, List.cons_append, List.drop_nil, List.append_nil, List.take_nil, List.set_cons_zero, List.set_cons_succ, Nat.zero_add, ni, nr, nc, ns, np, ic])) ?_
   refine GL.doneT (by kernel_rfl) ?_
   refine blockX.normal ?_
   refine goOn ?_
   refine Wp.regI I0.mono ?_
   refine GL.move I0.mono (by conv => lhs; whnf) ?_
   refine GL.addR I0.mono rfl rfl (by omega) ?_
   refine GL.assign I0.mono (by conv => lhs; whnf) ?_
   refine GL.doneF ?_
   refine ⟨⟨k + 1, _, _, _, _⟩, (by dsimp only; omega), _, (LessS.weak (LessS.upd (LessS.upd (LessS.upd (LessS.upd (LessS.upd (LessS.nil _) rfl) rfl) rfl) rfl) rfl) _), (by omega), _, (congrArg (St.mk _) (effM_eq (Has.cons rfl (Has.cons rfl (Has.cons rfl (Has.cons rfl (Has.cons rfl (Has.cons rfl Has.nil))))))).symm)⟩
  ·replace h25 := of_decide_eq_false h25
   obtain rfl : k = nCars z := by omega
   refine Wp.exitI ?_
   refine thenX.exit ?_
   refine thenX.exit ?_
   refine blockX.out ?_
   refine goOn ?_
   refine Wp.seqI ?_
   refine Wp.regI I0.mono ?_
   refine GL.move I0.mono (by conv => lhs; whnf) ?_
   refine GL.move I0.mono (by conv => lhs; whnf) ?_
   refine GL.call0 I0.mono rfl (Frz.aggc (by exact Frz.pure rfl) (Frz.aggc (by exact Frz.pure rfl) (Frz.aggn))) (num_ok z hz _ (by omega) (by omega)) rfl rfl (fun _ => rfl) ?_
   refine GL.call0 I0.mono rfl (Frz.aggc (by exact Frz.pure rfl) (Frz.aggc (by exact Frz.pure rfl) (Frz.aggn))) (within_ok _ 7 (by decide)) rfl rfl (fun _ => rfl) ?_
   have hw4 := within_in (a := num z 4) (n := 7) (by decide)
   refine GL.addR I0.mono rfl rfl (by omega) ?_
   refine GL.assign I0.mono (by conv => lhs; whnf) ?_
   refine GL.doneF ?_
   refine goOn ?_
   refine Wp.seqI ?_
   refine Wp.seqI ?_
   refine Wp.regI I0.mono ?_
   refine GL.assign I0.mono (by conv => lhs; whnf) ?_
   refine GL.doneF ?_
   refine goOn ?_
   refine Wp.blockI ?_
   refine Wp.loopI I0.mono (α := Nat × Nat × Nat × Nat × Nat) (fun ⟨k, ga, gb, gc, gd⟩ st => (k ≤ nStops z) ∧ ∃ m0, st = ⟨(updS (updS (updS (updS (updS (updS (fun _ => LV.undef) 0 (.sl (em ni z))) 2 (.ref 128 g2 0 0)) 3 (.fn 14 [])) 4 (.ref 256 g4 0 0)) 7 (.int .i64 (2 + within (num z 4) 7))) 8 (.int .i64 (k : Int))), effM m0 [(128, ⟨g2, false, .var, 4, [[.nils, .nils, .nils, .nils]]⟩), (256, ⟨g4, false, .var, 4, [[.own 700001 ga 0 (nCars z) none, .own 700002 gb 0 k none, .own 700003 gc 0 0 none, .own 700004 gd 0 0 none]]⟩), (700001, ⟨ga, false, .slc, 3, em nc (cars z (nCars z))⟩), (700002, ⟨gb, false, .slc, 4, em ns (stops0 z k)⟩), (700003, ⟨gc, false, .slc, 2, []⟩), (700004, ⟨gd, false, .slc, 1, []⟩)]⟩) (fun ⟨k, ga, gb, gc, gd⟩ => nStops z - k) ⟨0, _, _, _, _⟩ ⟨_, (LessS.weak (LessS.upd (LessS.upd (LessS.upd (LessS.upd (LessS.upd (LessS.upd (LessS.nil _) rfl) rfl) rfl) rfl) rfl) rfl) _), (Nat.zero_le _), _, (congrArg (St.mk _) (effM_eq (Has.cons rfl (Has.cons rfl (Has.cons rfl (Has.cons rfl (Has.cons rfl (Has.cons rfl Has.nil))))))).symm)⟩ ?_
   rintro ⟨k, ga, gb, gc, gd⟩ _ ⟨hi, m0, rfl⟩
   have hw4 := within_in (a := num z 4) (n := 7) (by decide)
   have hns : nStops z = (2 + within (num z 4) 7).toNat := rfl
   refine Wp.seqI ?_
   refine Wp.seqI ?_
   refine Wp.regI I0.mono ?_
   refine GL.move I0.mono (by conv => lhs; whnf) ?_
   refine GL.move I0.mono (by conv => lhs; whnf) ?_
   refine GL.bin I0.mono rfl ?_
   refine GL.doneF ?_
   refine goOn ?_
   refine Wp.condI rfl (fun h62 => ?_) (fun h62 => ?_)
   ·replace h62 := of_decide_eq_true h62
    have hs := num_in z (k := 5 + (k : Int)) (by omega) (by omega)
    unfold In at hs
    refine Wp.skipI ?_
    refine goOn ?_
    refine Wp.seqI ?_
    refine Wp.blockI ?_
    refine Wp.seqI ?_
    refine Wp.regI I0.mono ?_
    refine GL.move I0.mono (by conv => lhs; whnf) ?_
    refine GL.move I0.mono (by conv => lhs; whnf) ?_
    refine GL.addR I0.mono rfl rfl (by omega) ?_
    refine GL.call0 I0.mono rfl (Frz.aggc (by exact Frz.pure rfl) (Frz.aggc (by exact Frz.pure rfl) (Frz.aggn))) (num_ok z hz _ (by omega) (by omega)) rfl rfl (fun _ => rfl) ?_
    refine GL.assign I0.mono (by conv => lhs; whnf) ?_
    refine GL.doneF ?_
    refine goOn ?_
    refine Wp.seqI ?_
    refine Wp.regI I0.mono ?_
    refine GL.move I0.mono (by conv => lhs; whnf) ?_
    refine GL.move I0.mono (by conv => lhs; whnf) ?_
    refine GL.call0 I0.mono rfl (Frz.aggc (by exact Frz.pure rfl) (Frz.aggc (by exact Frz.pure rfl) (Frz.aggn))) (within_ok _ 8 (by decide)) rfl rfl (fun _ => rfl) ?_
    refine GL.move I0.mono (by conv => lhs; whnf) ?_
    refine GL.move I0.mono (by conv => lhs; whnf) ?_
    refine GL.quoR I0.mono rfl rfl (by omega) ?_
    refine GL.call0 I0.mono rfl (Frz.aggc (by exact Frz.pure rfl) (Frz.aggc (by exact Frz.pure rfl) (Frz.aggn))) (within_ok _ 30 (by decide)) rfl rfl (fun _ => rfl) ?_
    refine GL.move I0.mono (by conv => lhs; whnf) ?_
    refine GL.move I0.mono (by conv => lhs; whnf) ?_
    refine GL.quoR I0.mono rfl rfl (by omega) ?_
    refine GL.call0 I0.mono rfl (Frz.aggc (by exact Frz.pure rfl) (Frz.aggc (by exact Frz.pure rfl) (Frz.aggn))) (within_ok _ 6 (by decide)) rfl rfl (fun _ => rfl) ?_
    refine GL.buildS I0.mono (z := [LV.int .i64 0, LV.int .i64 0, LV.int .i64 0, LV.int .i64 0]) (cs := [_, _, _, _]) (n := 4) rfl rfl rfl (EvS.cons (by conv => lhs; whnf) (EvS.cons (by conv => lhs; whnf) (EvS.cons (by conv => lhs; whnf) (EvS.nil)))) rfl rfl ?_
    refine GL.alloc I0.mono (cs := [LV.int .i64 0, LV.int .i64 0, LV.int .i64 0, LV.int .i64 0]) rfl rfl ?_
    intro g10
    refine GL.storeW I0.mono (n := 4) rfl rfl rfl rfl rfl rfl rfl (by conv => lhs; whnf) rfl rfl rfl ?_
    refine GL.doneF ?_
    refine goOn ?_
    refine Wp.seqI ?_
    refine Wp.regD ?_
    refine GL.fieldAddr I0.mono (o := 1) rfl rfl rfl rfl (by conv => lhs; whnf) ?_
    refine GL.load I0.mono rfl rfl rfl rfl (by simp) (by rfl) rfl ?_
    refine GL.buildSlice0 I0.mono (sz := 1) (z := [LV.int .i64 0]) (es := em ni [900, 60, 25, 8]) rfl rfl rfl rfl (by decide) (by decide) (by decide) (FrzP.cons (S := []) (T := []) (Frz.aggc (S := []) (T := []) (Frz.pure rfl) Frz.aggn) rfl (by decide) rfl (FrzP.cons (S := []) (T := []) (Frz.aggc (S := []) (T := []) (Frz.pure rfl) Frz.aggn) rfl (by decide) rfl (FrzP.cons (S := []) (T := []) (Frz.aggc (S := []) (T := []) (Frz.pure rfl) Frz.aggn) rfl (by decide) rfl (FrzP.cons (S := []) (T := []) (Frz.aggc (S := []) (T := []) (Frz.pure rfl) Frz.aggn) rfl (by decide) rfl (FrzP.nil))))) rfl ?_
    intro g83
    refine GL.move I0.mono (by conv => lhs; whnf) ?_
    refine GL.move I0.mono (by conv => lhs; whnf) ?_
    refine GL.quoR I0.mono rfl rfl (by omega) ?_
    refine GL.call0 I0.mono rfl (Frz.aggc (by exact Frz.pure rfl) (Frz.aggc (by exact Frz.pure rfl) (Frz.aggn))) (within_ok _ 4 (by decide)) rfl rfl (fun _ => rfl) ?_
    refine GL.indexAddr I0.mono (sz := 1) rfl rfl rfl rfl rfl rfl rfl rfl (by exact (within_in (by decide)).1) (by exact (within_in (by decide)).2) (by (conv => lhs; simp only [Nat.zero_add, Int.toNat_natCast])) ?_
    refine GL.load I0.mono rfl rfl rfl rfl (by simp) (by exact em_get (show _ < 4 from wi4 _)) rfl ?_
    have hg := le900 (within ((num z (5 + (k : Int))).tdiv 7) 4).toNat
    have hw1 := within_in (a := (num z (5 + (k : Int))).tdiv 8) (n := 30) (by decide)
    refine GL.addR I0.mono rfl rfl (by omega) ?_
    refine GL.min I0.mono rfl ?_
    refine GL.fieldAddr I0.mono (o := 2) rfl rfl rfl rfl (by conv => lhs; whnf) ?_
    refine GL.store I0.mono (n := 1) rfl rfl rfl rfl rfl rfl rfl rfl rfl rfl (Nat.le_of_ble_eq_true rfl) (by (conv => lhs; simp only [List.take_succ_cons, List.take_zero, List.drop_succ_cons, List.drop_zero, List.nil_append, List.cons_append, List.drop_nil, List.append_nil, List.take_nil, List.set_cons_zero, List.set_cons_succ, Nat.zero_add, ni, nr, nc, ns, np, ic])) (by (conv => lhs; simp only [List.take_succ_cons, List.take_zero, List.drop_succ_cons, List.drop_zero, List.nil_append, List.cons_append, List.drop_nil, List.append_nil, List.take_nil, List.set_cons_zero, List.set_cons_succ, Nat.zero_add, ni, nr, nc, ns, np, ic])) ?_
    refine GL.doneT (by kernel_rfl) ?_
    refine goOn ?_
    refine Wp.seqI ?_
    refine Wp.seqI ?_
    refine Wp.regI I0.mono ?_
    refine GL.move I0.mono (by conv => lhs; whnf) ?_
    refine GL.move I0.mono (by conv => lhs; whnf) ?_
    refine GL.call0 I0.mono rfl (Frz.aggc (by exact Frz.pure rfl) (Frz.aggc (by exact Frz.pure rfl) (Frz.aggn))) (within_ok _ 9 (by decide)) rfl rfl (fun _ => rfl) ?_
    refine GL.bin I0.mono rfl ?_
    refine GL.doneF ?_
    refine goOn ?_
    refine Wp.condI rfl (fun h96 => ?_) (fun h96 => ?_)
    ·replace h96 := of_decide_eq_true h96
     refine Wp.regI I0.mono ?_
     refine GL.move I0.mono (by conv => lhs; whnf) ?_
     refine GL.move I0.mono (by conv => lhs; whnf) ?_
     refine GL.quoR I0.mono rfl rfl (by omega) ?_
     refine GL.call0 I0.mono rfl (Frz.aggc (by exact Frz.pure rfl) (Frz.aggc (by exact Frz.pure rfl) (Frz.aggn))) (within_ok _ 4 (by decide)) rfl rfl (fun _ => rfl) ?_
     have hw2 := within_in (a := (num z (5 + (k : Int))).tdiv 9) (n := 4) (by decide)
     refine GL.subR I0.mono rfl rfl (by omega) ?_
     refine GL.fieldAddr I0.mono (o := 0) rfl rfl rfl rfl (by conv => lhs; whnf) ?_
     refine GL.store I0.mono (n := 1) rfl rfl rfl rfl rfl rfl rfl rfl rfl rfl (Nat.le_of_ble_eq_true rfl) (by (conv => lhs; simp only [List.take_succ_cons, List.take_zero, List.drop_succ_cons, List.drop_zero, List.nil_append, List.cons_append, List.drop_nil, List.append_nil, List.take_nil, List.set_cons_zero, List.set_cons_succ, Nat.zero_add, ni, nr, nc, ns, np, ic])) (by (conv => lhs; simp only [List.take_succ_cons, List.take_zero, List.drop_succ_cons, List.drop_zero, List.nil_append, List.cons_append, List.drop_nil, List.append_nil, List.take_nil, List.set_cons_zero, List.set_cons_succ, Nat.zero_add, ni, nr, nc, ns, np, ic])) ?_
     refine GL.doneF ?_
     refine goOn ?_
     refine Wp.regI I0.mono ?_
     refine GL.fieldAddr I0.mono (o := 1) rfl rfl rfl rfl (by conv => lhs; whnf) ?_
     refine GL.load I0.mono rfl rfl rfl rfl (by simp) (by rfl) rfl ?_
     refine GL.loadW I0.mono (n := 4) rfl rfl rfl rfl (by simp) (by rfl) rfl rfl ?_
     refine GL.buildSlice0 I0.mono (sz := 4) (z := [LV.int .i64 0, LV.int .i64 0, LV.int .i64 0, LV.int .i64 0]) rfl rfl rfl rfl (by decide) (by decide) (by decide) (FrzP.cons (S := []) (T := []) (Frz.pures rfl) rfl (by decide) rfl (FrzP.nil)) (by conv => lhs; simp only [fillE, List.replicate, List.map, pureC, List.set_cons_zero, List.set_cons_succ]) ?_
     intro g106
     refine GL.append1 I0.mono (f := ns) (v := stopOf z k) (sz := 4) (z := [.int .i64 0, .int .i64 0, .int .i64 0, .int .i64 0]) rfl rfl rfl rfl rfl (by decide) (Nat.le_of_ble_eq_true rfl) rfl rfl rfl rfl rfl rfl rfl (stops0_len z k).symm rfl rfl rfl rfl rfl (by (simp only [ns, stopOf, if_pos h96]; rfl)) rfl rfl (by omega) ?_
     rw [← stops0_succ]
     refine GL.fieldAddr I0.mono (o := 1) rfl rfl rfl rfl (by conv => lhs; whnf) ?_
     refine GL.store I0.mono (n := 1) rfl rfl rfl rfl rfl rfl rfl rfl rfl rfl (Nat.le_of_ble_eq_true rfl) (by (conv => lhs; simp only [List.take_succ_cons, List.take_zero, List.drop_succ_cons, List.drop_zero, List.nil_append, List.cons_append, List.drop_nil, List.append_nil, List.take_nil, List.set_cons_zero, List.set_cons_succ, Nat.zero_add, ni, nr, nc, ns, np, ic])) (by (conv => lhs; simp only [List.take_succ_cons, List.take_zero, List.drop_succ_cons, List.drop_zero, List.nil_append, List.cons_append, List.drop_nil, List.append_nil, List.take_nil, List.set_cons_zero, List.set_cons_succ, Nat.zero_add, ni, nr, nc, ns, np, ic])) ?_
     refine GL.doneF ?_
     refine blockX.normal ?_
     refine goOn ?_
     refine Wp.regI I0.mono ?_
     refine GL.move I0.mono (by conv => lhs; whnf) ?_
     refine GL.addR I0.mono rfl rfl (by omega) ?_
     refine GL.assign I0.mono (by conv => lhs; whnf) ?_
     refine GL.doneF ?_
     refine ⟨⟨k + 1, _, _, _, _⟩, (by dsimp only; omega), _, (LessS.weak (LessS.upd (LessS.upd (LessS.upd (LessS.upd (LessS.upd (LessS.upd (LessS.nil _) rfl) rfl) rfl) rfl) rfl) rfl) _), (by omega), _, (congrArg (St.mk _) (effM_eq (Has.cons rfl (Has.cons rfl (Has.cons rfl (Has.cons rfl (Has.cons rfl (Has.cons rfl Has.nil))))))).symm)⟩
    ·replace h96 := of_decide_eq_false h96
     refine Wp.skipI ?_
     refine goOn ?_
     refine Wp.regI I0.mono ?_
     refine GL.fieldAddr I0.mono (o := 1) rfl rfl rfl rfl (by conv => lhs; whnf) ?_
     refine GL.load I0.mono rfl rfl rfl rfl (by simp) (by rfl) rfl ?_
     refine GL.loadW I0.mono (n := 4) rfl rfl rfl rfl (by simp) (by rfl) rfl rfl ?_
     refine GL.buildSlice0 I0.mono (sz := 4) (z := [LV.int .i64 0, LV.int .i64 0, LV.int .i64 0, LV.int .i64 0]) rfl rfl rfl rfl (by decide) (by decide) (by decide) (FrzP.cons (S := []) (T := []) (Frz.pures rfl) rfl (by decide) rfl (FrzP.nil)) (by conv => lhs; simp only [fillE, List.replicate, List.map, pureC, List.set_cons_zero, List.set_cons_succ]) ?_
     intro g106
     refine GL.append1 I0.mono (f := ns) (v := stopOf z k) (sz := 4) (z := [.int .i64 0, .int .i64 0, .int .i64 0, .int .i64 0]) rfl rfl rfl rfl rfl (by decide) (Nat.le_of_ble_eq_true rfl) rfl rfl rfl rfl rfl rfl rfl (stops0_len z k).symm rfl rfl rfl rfl rfl (by (simp only [ns, stopOf, if_neg h96]; rfl)) rfl rfl (by omega) ?_
     rw [← stops0_succ]
     refine GL.fieldAddr I0.mono (o := 1) rfl rfl rfl rfl (by conv => lhs; whnf) ?_
     refine GL.store I0.mono (n := 1) rfl rfl rfl rfl rfl rfl rfl rfl rfl rfl (Nat.le_of_ble_eq_true rfl) (by (conv => lhs; simp only [List.take_succ_cons, List.take_zero, List.drop_succ_cons, List.drop_zero, List.nil_append, List.cons_append, List.drop_nil, List.append_nil, List.take_nil, List.set_cons_zero, List.set_cons_succ, Nat.zero_add, ni, nr, nc, ns, np, ic])) (by (conv => lhs; simp only [List.take_succ_cons, List.take_zero, List.drop_succ_cons, List.drop_zero, List.nil_append, List.cons_append, List.drop_nil, List.append_nil, List.take_nil, List.set_cons_zero, List.set_cons_succ, Nat.zero_add, ni, nr, nc, ns, np, ic])) ?_
     refine GL.doneF ?_
     refine blockX.normal ?_
     refine goOn ?_
     refine Wp.regI I0.mono ?_
     refine GL.move I0.mono (by conv => lhs; whnf) ?_
     refine GL.addR I0.mono rfl rfl (by omega) ?_
     refine GL.assign I0.mono (by conv => lhs; whnf) ?_
     refine GL.doneF ?_
     refine ⟨⟨k + 1, _, _, _, _⟩, (by dsimp only; omega), _, (LessS.weak (LessS.upd (LessS.upd (LessS.upd (LessS.upd (LessS.upd (LessS.upd (LessS.nil _) rfl) rfl) rfl) rfl) rfl) rfl) _), (by omega), _, (congrArg (St.mk _) (effM_eq (Has.cons rfl (Has.cons rfl (Has.cons rfl (Has.cons rfl (Has.cons rfl (Has.cons rfl Has.nil))))))).symm)⟩
   ·replace h62 := of_decide_eq_false h62
    obtain rfl : k = nStops z := by omega
    refine Wp.exitI ?_
    refine thenX.exit ?_
    refine thenX.exit ?_
    refine blockX.out ?_
    refine goOn ?_
    refine Wp.seqI ?_
    refine Wp.seqI ?_
    refine Wp.regI I0.mono ?_
    refine GL.assign I0.mono (by conv => lhs; whnf) ?_
    refine GL.doneF ?_
    refine goOn ?_
    refine Wp.blockI ?_
    refine Wp.loopI I0.mono (α := Nat × Nat × Nat × Nat × Nat) (fun ⟨k, ga, gb, gc, gd⟩ st => (k ≤ nPairs z) ∧ ∃ m0, st = ⟨(updS (updS (updS (updS (updS (updS (fun _ => LV.undef) 0 (.sl (em ni z))) 2 (.ref 128 g2 0 0)) 3 (.fn 14 [])) 4 (.ref 256 g4 0 0)) 7 (.int .i64 (2 + within (num z 4) 7))) 11 (.int .i64 (k : Int))), effM m0 [(128, ⟨g2, false, .var, 4, [[.nils, .nils, .nils, .nils]]⟩), (256, ⟨g4, false, .var, 4, [[.own 700001 ga 0 (nCars z) none, .own 700002 gb 0 (nStops z) none, .own 700003 gc 0 k none, .own 700004 gd 0 0 none]]⟩), (700001, ⟨ga, false, .slc, 3, em nc (cars z (nCars z))⟩), (700002, ⟨gb, false, .slc, 4, em ns (stopsK z (stops0 z (nStops z)) k)⟩), (700003, ⟨gc, false, .slc, 2, em np (pairsK z k)⟩), (700004, ⟨gd, false, .slc, 1, []⟩)]⟩) (fun ⟨k, ga, gb, gc, gd⟩ => nPairs z - k) ⟨0, _, _, _, _⟩ ⟨_, (LessS.weak (LessS.upd (LessS.upd (LessS.upd (LessS.upd (LessS.upd (LessS.upd (LessS.nil _) rfl) rfl) rfl) rfl) rfl) rfl) _), (Nat.zero_le _), _, (congrArg (St.mk _) (effM_eq (Has.cons rfl (Has.cons rfl (Has.cons rfl (Has.cons rfl (Has.cons rfl (Has.cons rfl Has.nil))))))).symm)⟩ ?_
    rintro ⟨k, ga, gb, gc, gd⟩ _ ⟨hi, m0, rfl⟩
    have hw4 := within_in (a := num z 4) (n := 7) (by decide)
    have hw14 := within_in (a := num z 14) (n := 3) (by decide)
    have hns : nStops z = (2 + within (num z 4) 7).toNat := rfl
    have hnp : nPairs z = min (within (num z 14) 3).toNat (nStops z / 2) := rfl
    have hsl : (stopsK z (stops0 z (nStops z)) k).length = nStops z := by rw [stopsK_len, stops0_len]
    refine Wp.seqI ?_
    refine Wp.seqI ?_
    refine Wp.regI I0.mono ?_
    refine GL.move I0.mono (by conv => lhs; whnf) ?_
    refine GL.move I0.mono (by conv => lhs; whnf) ?_
    refine GL.move I0.mono (by conv => lhs; whnf) ?_
    refine GL.call0 I0.mono rfl (Frz.aggc (by exact Frz.pure rfl) (Frz.aggc (by exact Frz.pure rfl) (Frz.aggn))) (num_ok z hz _ (by omega) (by omega)) rfl rfl (fun _ => rfl) ?_
    refine GL.call0 I0.mono rfl (Frz.aggc (by exact Frz.pure rfl) (Frz.aggc (by exact Frz.pure rfl) (Frz.aggn))) (within_ok _ 3 (by decide)) rfl rfl (fun _ => rfl) ?_
    refine GL.bin I0.mono rfl ?_
    refine GL.move I0.mono (by conv => lhs; whnf) ?_
    refine GL.splitAt 115 rfl (fun h115 => ?_) (fun h115 => ?_)
    ·rw [h115]
     replace h115 := of_decide_eq_true h115
     refine GL.guardT rfl ?_
     refine GL.move I0.mono (by conv => lhs; whnf) ?_
     refine GL.guardT rfl ?_
     refine GL.mulR I0.mono rfl rfl (by omega) ?_
     refine GL.guardT rfl ?_
     refine GL.addR I0.mono rfl rfl (by omega) ?_
     refine GL.guardT rfl ?_
     refine GL.move I0.mono (by conv => lhs; whnf) ?_
     refine GL.guardT rfl ?_
     refine GL.bin I0.mono rfl ?_
     refine GL.pick I0.mono rfl (by conv => lhs; whnf) ?_
     refine GL.doneF ?_
     refine goOn ?_
     refine Wp.condI rfl (fun h121 => ?_) (fun h121 => ?_)
     ·replace h121 := of_decide_eq_true h121
      refine Wp.skipI ?_
      refine goOn ?_
      refine Wp.seqI ?_
      refine Wp.blockI ?_
      refine Wp.seqI ?_
      refine Wp.regI I0.mono ?_
      refine GL.move I0.mono (by conv => lhs; whnf) ?_
      refine GL.mulR I0.mono rfl rfl (by omega) ?_
      refine GL.addR I0.mono rfl rfl (by omega) ?_
      refine GL.move I0.mono (by conv => lhs; whnf) ?_
      refine GL.mulR I0.mono rfl rfl (by omega) ?_
      refine GL.addR I0.mono rfl rfl (by omega) ?_
      refine GL.assign I0.mono (by conv => lhs; whnf) ?_
      refine GL.assign I0.mono (by conv => lhs; whnf) ?_
      refine GL.doneF ?_
      refine goOn ?_
      refine Wp.seqI ?_
      refine Wp.seqI ?_
      refine Wp.regI I0.mono ?_
      refine GL.move I0.mono (by conv => lhs; whnf) ?_
      refine GL.move I0.mono (by conv => lhs; whnf) ?_
      refine GL.move I0.mono (by conv => lhs; whnf) ?_
      refine GL.addR I0.mono rfl rfl (by omega) ?_
      refine GL.call0 I0.mono rfl (Frz.aggc (by exact Frz.pure rfl) (Frz.aggc (by exact Frz.pure rfl) (Frz.aggn))) (num_ok z hz _ (by omega) (by omega)) rfl rfl (fun _ => rfl) ?_
      refine GL.call0 I0.mono rfl (Frz.aggc (by exact Frz.pure rfl) (Frz.aggc (by exact Frz.pure rfl) (Frz.aggn))) (within_ok _ 2 (by decide)) rfl rfl (fun _ => rfl) ?_
      refine GL.bin I0.mono rfl ?_
      refine GL.doneF ?_
      refine goOn ?_
      refine Wp.condI rfl (fun h136 => ?_) (fun h136 => ?_)
      ·replace h136 := of_decide_eq_true h136
       refine Wp.regI I0.mono ?_
       refine GL.move I0.mono (by conv => lhs; whnf) ?_
       refine GL.move I0.mono (by conv => lhs; whnf) ?_
       refine GL.assign I0.mono (by conv => lhs; whnf) ?_
       refine GL.assign I0.mono (by conv => lhs; whnf) ?_
       refine GL.doneF ?_
       refine goOn ?_
       refine Wp.seqI ?_
       refine Wp.regI I0.mono ?_
       refine GL.move I0.mono (by conv => lhs; whnf) ?_
       refine GL.move I0.mono (by conv => lhs; whnf) ?_
       refine GL.move I0.mono (by conv => lhs; whnf) ?_
       refine GL.addR I0.mono rfl rfl (by omega) ?_
       refine GL.call0 I0.mono rfl (Frz.aggc (by exact Frz.pure rfl) (Frz.aggc (by exact Frz.pure rfl) (Frz.aggn))) (num_ok z hz _ (by omega) (by omega)) rfl rfl (fun _ => rfl) ?_
       refine GL.call0 I0.mono rfl (Frz.aggc (by exact Frz.pure rfl) (Frz.aggc (by exact Frz.pure rfl) (Frz.aggn))) (within_ok _ 9 (by decide)) rfl rfl (fun _ => rfl) ?_
       refine GL.assign I0.mono (by conv => lhs; whnf) ?_
       refine GL.doneF ?_
       refine goOn ?_
       refine Wp.seqI ?_
       refine Wp.regD ?_
       refine GL.fieldAddr I0.mono (o := 1) rfl rfl rfl rfl (by conv => lhs; whnf) ?_
       refine GL.load I0.mono rfl rfl rfl rfl (by simp) (by rfl) rfl ?_
       refine GL.move I0.mono (by conv => lhs; whnf) ?_
       refine GL.subR I0.mono rfl rfl (by omega) ?_
       refine GL.fieldAddr I0.mono (o := 1) rfl rfl rfl rfl (by conv => lhs; whnf) ?_
       refine GL.load I0.mono rfl rfl rfl rfl (by simp) (by rfl) rfl ?_
       refine GL.move I0.mono (by conv => lhs; whnf) ?_
       refine GL.subR I0.mono rfl rfl (by omega) ?_
       refine GL.move I0.mono (by conv => lhs; whnf) ?_
       refine GL.move I0.mono (by conv => lhs; whnf) ?_
       have hwq := within_in (a := num z (16 + (k : Int))) (n := 9) (by decide)
       refine GL.negR I0.mono rfl (by omega) ?_
       refine GL.indexAddr I0.mono (sz := 4) rfl rfl rfl rfl rfl rfl rfl rfl (by omega) (by omega) (by (conv => lhs; simp only [Nat.zero_add, Int.toNat_natCast])) ?_
       refine GL.fieldAddr I0.mono (o := 0) rfl rfl rfl rfl (by conv => lhs; whnf) ?_
       refine GL.storeS I0.mono (n := 1) rfl rfl rfl rfl rfl rfl (em_get (by omega)) rfl rfl rfl rfl (Nat.le_of_ble_eq_true rfl) rfl (em_set ns _ _ (Stop.mk _ _ _ _)) ?_
       refine GL.indexAddr I0.mono (sz := 4) rfl rfl rfl rfl rfl rfl rfl rfl (by omega) (by omega) (by (conv => lhs; simp only [Nat.zero_add, Int.toNat_natCast])) ?_
       refine GL.fieldAddr I0.mono (o := 0) rfl rfl rfl rfl (by conv => lhs; whnf) ?_
       refine GL.storeS I0.mono (n := 1) (es' := em ns (stopsK z (stops0 z (nStops z)) (k + 1))) rfl rfl rfl rfl rfl rfl (em_get (by (rw [List.length_set]; omega))) rfl rfl rfl rfl (Nat.le_of_ble_eq_true rfl) rfl (by (simp only [stopsK, pairStep, pairOf, if_pos h136, setQ, pairQ]; exact em_set ns _ _ (Stop.mk _ _ _ _))) ?_
       refine GL.doneT (by kernel_rfl) ?_
       refine goOn ?_
       refine Wp.regI I0.mono ?_
       refine GL.fieldAddr I0.mono (o := 2) rfl rfl rfl rfl (by conv => lhs; whnf) ?_
       refine GL.load I0.mono rfl rfl rfl rfl (by simp) (by rfl) rfl ?_
       refine GL.move I0.mono (by conv => lhs; whnf) ?_
       refine GL.move I0.mono (by conv => lhs; whnf) ?_
       refine GL.buildS I0.mono (z := [LV.int .i64 0, LV.int .i64 0]) (cs := [_, _]) (n := 2) rfl rfl rfl (EvS.cons (by conv => lhs; whnf) (EvS.cons (by conv => lhs; whnf) (EvS.nil))) rfl rfl ?_
       refine GL.buildSlice0 I0.mono (sz := 2) (z := [LV.int .i64 0, LV.int .i64 0]) rfl rfl rfl rfl (by decide) (by decide) (by decide) (FrzP.cons (S := []) (T := []) (Frz.pures rfl) rfl (by decide) rfl (FrzP.nil)) (by conv => lhs; simp only [fillE, List.replicate, List.map, pureC, List.set_cons_zero, List.set_cons_succ]) ?_
       intro g165
       refine GL.append1 I0.mono (f := np) (v := pairOf z k) (sz := 2) (z := [.int .i64 0, .int .i64 0]) rfl rfl rfl rfl rfl (by decide) (Nat.le_of_ble_eq_true rfl) rfl rfl rfl rfl rfl rfl rfl (by simp [pairsK]) rfl rfl rfl rfl rfl (by (simp only [np, pairOf, if_pos h136]; rfl)) rfl rfl (by omega) ?_
       rw [← pairsK_succ]
       refine GL.fieldAddr I0.mono (o := 2) rfl rfl rfl rfl (by conv => lhs; whnf) ?_
       refine GL.store I0.mono (n := 1) rfl rfl rfl rfl rfl rfl rfl rfl rfl rfl (Nat.le_of_ble_eq_true rfl) (by (conv => lhs; simp only [List.take_succ_cons, List.take_zero, List.drop_succ_cons, List.drop_zero, List.nil_append, List.cons_append, List.drop_nil, List.append_nil, List.take_nil, List.set_cons_zero, List.set_cons_succ, Nat.zero_add, ni, nr, nc, ns, np, ic])) (by (conv => lhs; simp only [List.take_succ_cons, List.take_zero, List.drop_succ_cons, List.drop_zero, List.nil_append, List.cons_append, List.drop_nil, List.append_nil, List.take_nil, List.set_cons_zero, List.set_cons_succ, Nat.zero_add, ni, nr, nc, ns, np, ic])) ?_
       refine GL.doneF ?_
       refine blockX.normal ?_
       refine goOn ?_
       refine Wp.regI I0.mono ?_
       refine GL.move I0.mono (by conv => lhs; whnf) ?_
       refine GL.addR I0.mono rfl rfl (by omega) ?_
       refine GL.assign I0.mono (by conv => lhs; whnf) ?_
       refine GL.doneF ?_
       refine ⟨⟨k + 1, _, _, _, _⟩, (by dsimp only; omega), _, (LessS.weak (LessS.upd (LessS.upd (LessS.upd (LessS.upd (LessS.upd (LessS.upd (LessS.nil _) rfl) rfl) rfl) rfl) rfl) rfl) _), (by omega), _, (congrArg (St.mk _) (effM_eq (Has.cons rfl (Has.cons rfl (Has.cons rfl (Has.cons rfl (Has.cons rfl (Has.cons rfl Has.nil))))))).symm)⟩
      ·replace h136 := of_decide_eq_false h136
       refine Wp.skipI ?_
       refine goOn ?_
       refine Wp.seqI ?_
       refine Wp.regI I0.mono ?_
       refine GL.move I0.mono (by conv => lhs; whnf) ?_
       refine GL.move I0.mono (by conv => lhs; whnf) ?_
       refine GL.move I0.mono (by conv => lhs; whnf) ?_
       refine GL.addR I0.mono rfl rfl (by omega) ?_
       refine GL.call0 I0.mono rfl (Frz.aggc (by exact Frz.pure rfl) (Frz.aggc (by exact Frz.pure rfl) (Frz.aggn))) (num_ok z hz _ (by omega) (by omega)) rfl rfl (fun _ => rfl) ?_
       refine GL.call0 I0.mono rfl (Frz.aggc (by exact Frz.pure rfl) (Frz.aggc (by exact Frz.pure rfl) (Frz.aggn))) (within_ok _ 9 (by decide)) rfl rfl (fun _ => rfl) ?_
       refine GL.assign I0.mono (by conv => lhs; whnf) ?_
       refine GL.doneF ?_
       refine goOn ?_
       refine Wp.seqI ?_
       refine Wp.regD ?_
       refine GL.fieldAddr I0.mono (o := 1) rfl rfl rfl rfl (by conv => lhs; whnf) ?_
       refine GL.load I0.mono rfl rfl rfl rfl (by simp) (by rfl) rfl ?_
       refine GL.move I0.mono (by conv => lhs; whnf) ?_
       refine GL.subR I0.mono rfl rfl (by omega) ?_
       refine GL.fieldAddr I0.mono (o := 1) rfl rfl rfl rfl (by conv => lhs; whnf) ?_
       refine GL.load I0.mono rfl rfl rfl rfl (by simp) (by rfl) rfl ?_
       refine GL.move I0.mono (by conv => lhs; whnf) ?_
       refine GL.subR I0.mono rfl rfl (by omega) ?_
       refine GL.move I0.mono (by conv => lhs; whnf) ?_
       refine GL.move I0.mono (by conv => lhs; whnf) ?_
       have hwq := within_in (a := num z (16 + (k : Int))) (n := 9) (by decide)
       refine GL.negR I0.mono rfl (by omega) ?_
       refine GL.indexAddr I0.mono (sz := 4) rfl rfl rfl rfl rfl rfl rfl rfl (by omega) (by omega) (by (conv => lhs; simp only [Nat.zero_add, Int.toNat_natCast])) ?_
       refine GL.fieldAddr I0.mono (o := 0) rfl rfl rfl rfl (by conv => lhs; whnf) ?_
       refine GL.storeS I0.mono (n := 1) rfl rfl rfl rfl rfl rfl (em_get (by omega)) rfl rfl rfl rfl (Nat.le_of_ble_eq_true rfl) rfl (em_set ns _ _ (Stop.mk _ _ _ _)) ?_
       refine GL.indexAddr I0.mono (sz := 4) rfl rfl rfl rfl rfl rfl rfl rfl (by omega) (by omega) (by (conv => lhs; simp only [Nat.zero_add, Int.toNat_natCast])) ?_
       refine GL.fieldAddr I0.mono (o := 0) rfl rfl rfl rfl (by conv => lhs; whnf) ?_
       refine GL.storeS I0.mono (n := 1) (es' := em ns (stopsK z (stops0 z (nStops z)) (k + 1))) rfl rfl rfl rfl rfl rfl (em_get (by (rw [List.length_set]; omega))) rfl rfl rfl rfl (Nat.le_of_ble_eq_true rfl) rfl (by (simp only [stopsK, pairStep, pairOf, if_neg h136, setQ, pairQ]; exact em_set ns _ _ (Stop.mk _ _ _ _))) ?_
       refine GL.doneT (by kernel_rfl) ?_
       refine goOn ?_
       refine Wp.regI I0.mono ?_
       refine GL.fieldAddr I0.mono (o := 2) rfl rfl rfl rfl (by conv => lhs; whnf) ?_
       refine GL.load I0.mono rfl rfl rfl rfl (by simp) (by rfl) rfl ?_
       refine GL.move I0.mono (by conv => lhs; whnf) ?_
       refine GL.move I0.mono (by conv => lhs; whnf) ?_
       refine GL.buildS I0.mono (z := [LV.int .i64 0, LV.int .i64 0]) (cs := [_, _]) (n := 2) rfl rfl rfl (EvS.cons (by conv => lhs; whnf) (EvS.cons (by conv => lhs; whnf) (EvS.nil))) rfl rfl ?_
       refine GL.buildSlice0 I0.mono (sz := 2) (z := [LV.int .i64 0, LV.int .i64 0]) rfl rfl rfl rfl (by decide) (by decide) (by decide) (FrzP.cons (S := []) (T := []) (Frz.pures rfl) rfl (by decide) rfl (FrzP.nil)) (by conv => lhs; simp only [fillE, List.replicate, List.map, pureC, List.set_cons_zero, List.set_cons_succ]) ?_
       intro g165
       refine GL.append1 I0.mono (f := np) (v := pairOf z k) (sz := 2) (z := [.int .i64 0, .int .i64 0]) rfl rfl rfl rfl rfl (by decide) (Nat.le_of_ble_eq_true rfl) rfl rfl rfl rfl rfl rfl rfl (by simp [pairsK]) rfl rfl rfl rfl rfl (by (simp only [np, pairOf, if_neg h136]; rfl)) rfl rfl (by omega) ?_
       rw [← pairsK_succ]
       refine GL.fieldAddr I0.mono (o := 2) rfl rfl rfl rfl (by conv => lhs; whnf) ?_
       refine GL.store I0.mono (n := 1) rfl rfl rfl rfl rfl rfl rfl rfl rfl rfl (Nat.le_of_ble_eq_true rfl) (by (conv => lhs; simp only [List.take_succ_cons, List.take_zero, List.drop_succ_cons, List.drop_zero, List.nil_append, List.cons_append, List.drop_nil, List.append_nil, List.take_nil, List.set_cons_zero, List.set_cons_succ, Nat.zero_add, ni, nr, nc, ns, np, ic])) (by (conv => lhs; simp only [List.take_succ_cons, List.take_zero, List.drop_succ_cons, List.drop_zero, List.nil_append, List.cons_append, List.drop_nil, List.append_nil, List.take_nil, List.set_cons_zero, List.set_cons_succ, Nat.zero_add, ni, nr, nc, ns, np, ic])) ?_
       refine GL.doneF ?_
       refine blockX.normal ?_
       refine goOn ?_
       refine Wp.regI I0.mono ?_
       refine GL.move I0.mono (by conv => lhs; whnf) ?_
       refine GL.addR I0.mono rfl rfl (by omega) ?_
       refine GL.assign I0.mono (by conv => lhs; whnf) ?_
       refine GL.doneF ?_
       refine ⟨⟨k + 1, _, _, _, _⟩, (by dsimp only; omega), _, (LessS.weak (LessS.upd (LessS.upd (LessS.upd (LessS.upd (LessS.upd (LessS.upd (LessS.nil _) rfl) rfl) rfl) rfl) rfl) rfl) _), (by omega), _, (congrArg (St.mk _) (effM_eq (Has.cons rfl (Has.cons rfl (Has.cons rfl (Has.cons rfl (Has.cons rfl (Has.cons rfl Has.nil))))))).symm)⟩
     ·replace h121 := of_decide_eq_false h121
      obtain rfl : k = nPairs z := by omega
      refine Wp.exitI ?_
      refine thenX.exit ?_
      refine thenX.exit ?_
      refine blockX.out ?_
      refine goOn ?_
      refine Wp.seqI ?_
      refine Wp.seqI ?_
      refine Wp.regI I0.mono ?_
      refine GL.assign I0.mono (by conv => lhs; whnf) ?_
      refine GL.doneF ?_
      refine goOn ?_
      refine Wp.blockI ?_
      refine Wp.loopI I0.mono (α := Nat × Nat × Nat × Nat × Nat) (fun ⟨k, ga, gb, gc, gd⟩ st => (k ≤ nStops z + 1) ∧ ∃ m0, st = ⟨(updS (updS (updS (updS (updS (updS (fun _ => LV.undef) 0 (.sl (em ni z))) 2 (.ref 128 g2 0 0)) 3 (.fn 14 [])) 4 (.ref 256 g4 0 0)) 7 (.int .i64 (2 + within (num z 4) 7))) 15 (.int .i64 (k : Int))), effM m0 [(128, ⟨g2, false, .var, 4, [[.nils, .nils, .nils, .nils]]⟩), (256, ⟨g4, false, .var, 4, [[.own 700001 ga 0 (nCars z) none, .own 700002 gb 0 (nStops z) none, .own 700003 gc 0 (nPairs z) none, .own 700004 gd 0 k none]]⟩), (700001, ⟨ga, false, .slc, 3, em nc (cars z (nCars z))⟩), (700002, ⟨gb, false, .slc, 4, em ns (stopsK z (stops0 z (nStops z)) (nPairs z))⟩), (700003, ⟨gc, false, .slc, 2, em np (pairsK z (nPairs z))⟩), (700004, ⟨gd, false, .slc, 1, em nr (Mv.ways z (nStops z + 1) k)⟩)]⟩) (fun ⟨k, ga, gb, gc, gd⟩ => nStops z + 1 - k) ⟨0, _, _, _, _⟩ ⟨_, (LessS.weak (LessS.upd (LessS.upd (LessS.upd (LessS.upd (LessS.upd (LessS.upd (LessS.nil _) rfl) rfl) rfl) rfl) rfl) rfl) _), (Nat.zero_le _), _, (congrArg (St.mk _) (effM_eq (Has.cons rfl (Has.cons rfl (Has.cons rfl (Has.cons rfl (Has.cons rfl (Has.cons rfl Has.nil))))))).symm)⟩ ?_
      rintro ⟨k, ga, gb, gc, gd⟩ _ ⟨hi, m0, rfl⟩
      have hw4 := within_in (a := num z 4) (n := 7) (by decide)
      have hns : nStops z = (2 + within (num z 4) 7).toNat := rfl
      refine Wp.seqI ?_
      refine Wp.seqI ?_
      refine Wp.regI I0.mono ?_
      refine GL.move I0.mono (by conv => lhs; whnf) ?_
      refine GL.move I0.mono (by conv => lhs; whnf) ?_
      refine GL.bin I0.mono rfl ?_
      refine GL.doneF ?_
      refine goOn ?_
      refine Wp.condI rfl (fun h170 => ?_) (fun h170 => ?_)
      ·replace h170 := of_decide_eq_true h170
       refine Wp.skipI ?_
       refine goOn ?_
       refine Wp.seqI ?_
       refine Wp.blockI ?_
       refine Wp.seqI ?_
       refine Wp.regI I0.mono ?_
       refine GL.assign I0.mono (by conv => lhs; whnf) ?_
       refine GL.doneF ?_
       refine goOn ?_
       refine Wp.seqI ?_
       refine Wp.seqI ?_
       refine Wp.regI I0.mono ?_
       refine GL.assign I0.mono (by conv => lhs; whnf) ?_
       refine GL.doneF ?_
       refine goWeak (Weak.nilSlot (j := 16) 700005 1 rfl) ?_
       refine Wp.blockI ?_
       refine Wp.loopI I0.mono (α := Nat × Nat) (fun ⟨y, ge⟩ st => (y ≤ nStops z + 1) ∧ ∃ m0, st = ⟨(updS (updS (updS (updS (updS (updS (updS (updS (fun _ => LV.undef) 0 (.sl (em ni z))) 2 (.ref 128 g2 0 0)) 3 (.fn 14 [])) 4 (.ref 256 g4 0 0)) 7 (.int .i64 (2 + within (num z 4) 7))) 15 (.int .i64 (k : Int))) 16 (.own 700005 ge 0 y none)) 17 (.int .i64 (y : Int))), effM m0 [(128, ⟨g2, false, .var, 4, [[.nils, .nils, .nils, .nils]]⟩), (256, ⟨g4, false, .var, 4, [[.own 700001 ga 0 (nCars z) none, .own 700002 gb 0 (nStops z) none, .own 700003 gc 0 (nPairs z) none, .own 700004 gd 0 k none]]⟩), (700001, ⟨ga, false, .slc, 3, em nc (cars z (nCars z))⟩), (700002, ⟨gb, false, .slc, 4, em ns (stopsK z (stops0 z (nStops z)) (nPairs z))⟩), (700003, ⟨gc, false, .slc, 2, em np (pairsK z (nPairs z))⟩), (700004, ⟨gd, false, .slc, 1, em nr (Mv.ways z (nStops z + 1) k)⟩), (700005, ⟨ge, false, .slc, 1, em ni (wayRow z k y)⟩)]⟩) (fun ⟨y, ge⟩ => nStops z + 1 - y) ⟨0, _⟩ ⟨_, (LessS.weak (LessS.upd (LessS.upd (LessS.upd (LessS.upd (LessS.upd (LessS.upd (LessS.upd (LessS.upd (LessS.nil _) rfl) rfl) rfl) rfl) rfl) rfl) rfl) rfl) _), (Nat.zero_le _), _, (congrArg (St.mk _) (effM_eq (Has.cons rfl (Has.cons rfl (Has.cons rfl (Has.cons rfl (Has.cons rfl (Has.cons rfl (Has.cons rfl Has.nil)))))))).symm)⟩ ?_
       rintro ⟨y, ge⟩ _ ⟨hj, m0, rfl⟩
       refine Wp.seqI ?_
       refine Wp.seqI ?_
       refine Wp.regI I0.mono ?_
       refine GL.move I0.mono (by conv => lhs; whnf) ?_
       refine GL.move I0.mono (by conv => lhs; whnf) ?_
       refine GL.bin I0.mono rfl ?_
       refine GL.doneF ?_
       refine goOn ?_
       refine Wp.condI rfl (fun h175 => ?_) (fun h175 => ?_)
       ·replace h175 := of_decide_eq_true h175
        refine Wp.skipI ?_
        refine goOn ?_
        refine Wp.seqI ?_
        refine Wp.blockI ?_
        refine Wp.seqI ?_
        refine Wp.regI I0.mono ?_
        refine GL.move I0.mono (by conv => lhs; whnf) ?_
        refine GL.move I0.mono (by conv => lhs; whnf) ?_
        refine GL.move I0.mono (by conv => lhs; whnf) ?_
        refine GL.mulR I0.mono rfl rfl (by omega) ?_
        refine GL.addR I0.mono rfl rfl (by omega) ?_
        refine GL.move I0.mono (by conv => lhs; whnf) ?_
        refine GL.mulR I0.mono rfl rfl (by omega) ?_
        refine GL.addR I0.mono rfl rfl (by omega) ?_
        refine GL.call0 I0.mono rfl (Frz.aggc (by exact Frz.pure rfl) (Frz.aggc (by exact Frz.pure rfl) (Frz.aggn))) (num_ok z hz _ (by omega) (by omega)) rfl rfl (fun _ => rfl) ?_
        refine GL.call0 I0.mono rfl (Frz.aggc (by exact Frz.pure rfl) (Frz.aggc (by exact Frz.pure rfl) (Frz.aggn))) (within_ok _ 14 (by decide)) rfl rfl (fun _ => rfl) ?_
        have hw14 := within_in (a := num z (20 + 3 * (k : Int) + 5 * (y : Int))) (n := 14) (by decide)
        refine GL.addR I0.mono rfl rfl (by omega) ?_
        refine GL.assign I0.mono (by conv => lhs; whnf) ?_
        refine GL.doneF ?_
        refine goOn ?_
        refine Wp.seqI ?_
        refine Wp.seqI ?_
        refine Wp.regI I0.mono ?_
        refine GL.move I0.mono (by conv => lhs; whnf) ?_
        refine GL.move I0.mono (by conv => lhs; whnf) ?_
        refine GL.bin I0.mono rfl ?_
        refine GL.doneF ?_
        refine goOn ?_
        refine Wp.condI rfl (fun h191 => ?_) (fun h191 => ?_)
        ·replace h191 := of_decide_eq_true h191
         refine Wp.regI I0.mono ?_
         refine GL.assign I0.mono (by conv => lhs; whnf) ?_
         refine GL.doneF ?_
         refine goOn ?_
         refine Wp.regI I0.mono ?_
         refine GL.move I0.mono (by conv => lhs; whnf) ?_
         refine GL.move I0.mono (by conv => lhs; whnf) ?_
         refine GL.buildSlice0 I0.mono (sz := 1) (z := [LV.int .i64 0]) rfl rfl rfl rfl (by decide) (by decide) (by decide) (FrzP.cons (S := []) (T := []) (Frz.aggc (S := []) (T := []) (Frz.pure rfl) Frz.aggn) rfl (by decide) rfl (FrzP.nil)) (by conv => lhs; simp only [fillE, List.replicate, List.map, pureC, List.set_cons_zero, List.set_cons_succ]) ?_
         intro g194
         refine GL.append1 I0.mono (f := ni) (v := wayOf z k y) (sz := 1) (z := [.int .i64 0]) rfl rfl rfl rfl rfl (by decide) (Nat.le_of_ble_eq_true rfl) rfl rfl rfl rfl rfl rfl rfl (by simp [wayRow]) rfl rfl rfl rfl rfl (by (simp only [ni, wayOf, if_pos h191]; rfl)) rfl rfl (by omega) ?_
         rw [← wayRow_succ]
         refine GL.assign I0.mono (by conv => lhs; whnf) ?_
         refine GL.doneF ?_
         refine blockX.normal ?_
         refine goOn ?_
         refine Wp.regI I0.mono ?_
         refine GL.move I0.mono (by conv => lhs; whnf) ?_
         refine GL.addR I0.mono rfl rfl (by omega) ?_
         refine GL.assign I0.mono (by conv => lhs; whnf) ?_
         refine GL.doneF ?_
         refine ⟨⟨y + 1, _⟩, (by dsimp only; omega), _, (LessS.weak (LessS.upd (LessS.upd (LessS.upd (LessS.upd (LessS.upd (LessS.upd (LessS.upd (LessS.upd (LessS.nil _) rfl) rfl) rfl) rfl) rfl) rfl) rfl) rfl) _), (by omega), _, (congrArg (St.mk _) (effM_eq (Has.cons rfl (Has.cons rfl (Has.cons rfl (Has.cons rfl (Has.cons rfl (Has.cons rfl (Has.cons rfl Has.nil)))))))).symm)⟩
        ·replace h191 := of_decide_eq_false h191
         refine Wp.skipI ?_
         refine goOn ?_
         refine Wp.regI I0.mono ?_
         refine GL.move I0.mono (by conv => lhs; whnf) ?_
         refine GL.move I0.mono (by conv => lhs; whnf) ?_
         refine GL.buildSlice0 I0.mono (sz := 1) (z := [LV.int .i64 0]) rfl rfl rfl rfl (by decide) (by decide) (by decide) (FrzP.cons (S := []) (T := []) (Frz.aggc (S := []) (T := []) (Frz.pure rfl) Frz.aggn) rfl (by decide) rfl (FrzP.nil)) (by conv => lhs; simp only [fillE, List.replicate, List.map, pureC, List.set_cons_zero, List.set_cons_succ]) ?_
         intro g194
         refine GL.append1 I0.mono (f := ni) (v := wayOf z k y) (sz := 1) (z := [.int .i64 0]) rfl rfl rfl rfl rfl (by decide) (Nat.le_of_ble_eq_true rfl) rfl rfl rfl rfl rfl rfl rfl (by simp [wayRow]) rfl rfl rfl rfl rfl (by (simp only [ni, wayOf, if_neg h191]; rfl)) rfl rfl (by omega) ?_
         rw [← wayRow_succ]
         refine GL.assign I0.mono (by conv => lhs; whnf) ?_
         refine GL.doneF ?_
         refine blockX.normal ?_
         refine goOn ?_
         refine Wp.regI I0.mono ?_
         refine GL.move I0.mono (by conv => lhs; whnf) ?_
         refine GL.addR I0.mono rfl rfl (by omega) ?_
         refine GL.assign I0.mono (by conv => lhs; whnf) ?_
         refine GL.doneF ?_
         refine ⟨⟨y + 1, _⟩, (by dsimp only; omega), _, (LessS.weak (LessS.upd (LessS.upd (LessS.upd (LessS.upd (LessS.upd (LessS.upd (LessS.upd (LessS.upd (LessS.nil _) rfl) rfl) rfl) rfl) rfl) rfl) rfl) rfl) _), (by omega), _, (congrArg (St.mk _) (effM_eq (Has.cons rfl (Has.cons rfl (Has.cons rfl (Has.cons rfl (Has.cons rfl (Has.cons rfl (Has.cons rfl Has.nil)))))))).symm)⟩
       ·replace h175 := of_decide_eq_false h175
        obtain rfl : y = nStops z + 1 := by omega
        have hwl : (wayRow z k (nStops z + 1)).length = nStops z + 1 := by simp [wayRow]
        refine Wp.exitI ?_
        refine thenX.exit ?_
        refine thenX.exit ?_
        refine blockX.out ?_
        refine goOn ?_
        refine Wp.regI I0.mono ?_
        refine GL.fieldAddr I0.mono (o := 3) rfl rfl rfl rfl (by conv => lhs; whnf) ?_
        refine GL.load I0.mono rfl rfl rfl rfl (by simp) (by rfl) rfl ?_
        refine GL.move I0.mono (by conv => lhs; whnf) ?_
        refine GL.buildSliceM I0.mono (sz := 1) (z := [LV.nils]) rfl rfl rfl rfl (by decide) (by decide) (by decide) (FrzP.cons (Frz.aggc (by exact Frz.whole rfl rfl rfl rfl (by (rw [em_len]; omega))) Frz.aggn) rfl (by decide) rfl (FrzP.nil)) rfl (by conv => lhs; simp only [fillE, List.replicate, List.map, pureC, List.set_cons_zero, List.set_cons_succ]) ?_
        intro g199
        refine GL.append1 I0.mono (f := nr) (v := wayRow z k (nStops z + 1)) (sz := 1) (z := [.nils]) rfl rfl rfl rfl rfl (by decide) (Nat.le_of_ble_eq_true rfl) rfl rfl rfl rfl rfl rfl rfl (by simp [Mv.ways]) rfl rfl rfl rfl rfl rfl rfl rfl (by omega) ?_
        rw [← ways_succ]
        refine GL.fieldAddr I0.mono (o := 3) rfl rfl rfl rfl (by conv => lhs; whnf) ?_
        refine GL.store I0.mono (n := 1) rfl rfl rfl rfl rfl rfl rfl rfl rfl rfl (Nat.le_of_ble_eq_true rfl) (by (conv => lhs; simp only [List.take_succ_cons, List.take_zero, List.drop_succ_cons, List.drop_zero, List.nil_append, List.cons_append, List.drop_nil, List.append_nil, List.take_nil, List.set_cons_zero, List.set_cons_succ, Nat.zero_add, ni, nr, nc, ns, np, ic])) (by (conv => lhs; simp only [List.take_succ_cons, List.take_zero, List.drop_succ_cons, List.drop_zero, List.nil_append, List.cons_append, List.drop_nil, List.append_nil, List.take_nil, List.set_cons_zero, List.set_cons_succ, Nat.zero_add, ni, nr, nc, ns, np, ic])) ?_
        refine GL.doneF ?_
        refine blockX.normal ?_
        refine goOn ?_
        refine Wp.regI I0.mono ?_
        refine GL.move I0.mono (by conv => lhs; whnf) ?_
        refine GL.addR I0.mono rfl rfl (by omega) ?_
        refine GL.assign I0.mono (by conv => lhs; whnf) ?_
        refine GL.doneF ?_
        refine ⟨⟨k + 1, _, _, _, _⟩, (by dsimp only; omega), _, (LessS.weak (LessS.upd (LessS.upd (LessS.upd (LessS.upd (LessS.upd (LessS.upd (LessS.nil _) rfl) rfl) rfl) rfl) rfl) rfl) _), (by omega), _, (congrArg (St.mk _) (effM_eq (Has.cons rfl (Has.cons rfl (Has.cons rfl (Has.cons rfl (Has.cons rfl (Has.cons rfl Has.nil))))))).symm)⟩
      ·replace h170 := of_decide_eq_false h170
       obtain rfl : k = nStops z + 1 := by omega
       have e1 := cars_len z (nCars z)
       have e2 : (stopsK z (stops0 z (nStops z)) (nPairs z)).length = nStops z := by rw [stopsK_len, stops0_len]
       have e3 : (pairsK z (nPairs z)).length = nPairs z := by simp [pairsK]
       have e4 : (Mv.ways z (nStops z + 1) (nStops z + 1)).length = nStops z + 1 := by simp [Mv.ways]
       refine Wp.exitI ?_
       refine thenX.exit ?_
       refine thenX.exit ?_
       refine blockX.out ?_
       refine goOn ?_
       refine Wp.seqI ?_
       refine Wp.regI I0.mono ?_
       refine GL.loadW I0.mono (n := 4) rfl rfl rfl rfl (by simp) (by rfl) rfl rfl ?_
       refine GL.storeW I0.mono (n := 4) rfl rfl rfl rfl rfl rfl rfl (by conv => lhs; whnf) rfl rfl rfl ?_
       refine GL.doneF ?_
       refine goOn ?_
       refine Wp.retI ?_
       refine RetX.ret ?_
       refine ⟨_, _, _, _, .cons (.cellA (n := 4) rfl rfl rfl (by simp) rfl rfl rfl (Nat.le_of_ble_eq_true rfl)) .nil, .aggc (.slo rfl rfl rfl rfl (by (rw [em_len]; simp; omega))) (.aggc (.slo rfl rfl rfl rfl (by (rw [em_len]; simp; omega))) (.aggc (.slo rfl rfl rfl rfl (by (rw [em_len]; simp; omega))) (.aggc (.slo rfl rfl rfl rfl (by (rw [em_len]; simp; omega))) .aggn))), (by decide), by simp, ?_⟩
       rfl
    ·rw [h115]
     replace h115 := of_decide_eq_false h115
     obtain rfl : k = nPairs z := by omega
     refine GL.guardF rfl ?_
     refine GL.guardF rfl ?_
     refine GL.guardF rfl ?_
     refine GL.guardF rfl ?_
     refine GL.guardF rfl ?_
     refine GL.pick I0.mono rfl (by conv => lhs; whnf) ?_
     refine GL.doneF ?_
     refine goOn ?_
     refine Wp.condF rfl ?_
     refine Wp.exitI ?_
     refine thenX.exit ?_
     refine thenX.exit ?_
     refine blockX.out ?_
     refine goOn ?_
     refine Wp.seqI ?_
     refine Wp.seqI ?_
     refine Wp.regI I0.mono ?_
     refine GL.assign I0.mono (by conv => lhs; whnf) ?_
     refine GL.doneF ?_
     refine goOn ?_
     refine Wp.blockI ?_
     refine Wp.loopI I0.mono (α := Nat × Nat × Nat × Nat × Nat) (fun ⟨k, ga, gb, gc, gd⟩ st => (k ≤ nStops z + 1) ∧ ∃ m0, st = ⟨(updS (updS (updS (updS (updS (updS (fun _ => LV.undef) 0 (.sl (em ni z))) 2 (.ref 128 g2 0 0)) 3 (.fn 14 [])) 4 (.ref 256 g4 0 0)) 7 (.int .i64 (2 + within (num z 4) 7))) 15 (.int .i64 (k : Int))), effM m0 [(128, ⟨g2, false, .var, 4, [[.nils, .nils, .nils, .nils]]⟩), (256, ⟨g4, false, .var, 4, [[.own 700001 ga 0 (nCars z) none, .own 700002 gb 0 (nStops z) none, .own 700003 gc 0 (nPairs z) none, .own 700004 gd 0 k none]]⟩), (700001, ⟨ga, false, .slc, 3, em nc (cars z (nCars z))⟩), (700002, ⟨gb, false, .slc, 4, em ns (stopsK z (stops0 z (nStops z)) (nPairs z))⟩), (700003, ⟨gc, false, .slc, 2, em np (pairsK z (nPairs z))⟩), (700004, ⟨gd, false, .slc, 1, em nr (Mv.ways z (nStops z + 1) k)⟩)]⟩) (fun ⟨k, ga, gb, gc, gd⟩ => nStops z + 1 - k) ⟨0, _, _, _, _⟩ ⟨_, (LessS.weak (LessS.upd (LessS.upd (LessS.upd (LessS.upd (LessS.upd (LessS.upd (LessS.nil _) rfl) rfl) rfl) rfl) rfl) rfl) _), (Nat.zero_le _), _, (congrArg (St.mk _) (effM_eq (Has.cons rfl (Has.cons rfl (Has.cons rfl (Has.cons rfl (Has.cons rfl (Has.cons rfl Has.nil))))))).symm)⟩ ?_
     rintro ⟨k, ga, gb, gc, gd⟩ _ ⟨hi, m0, rfl⟩
     have hw4 := within_in (a := num z 4) (n := 7) (by decide)
     have hns : nStops z = (2 + within (num z 4) 7).toNat := rfl
     refine Wp.seqI ?_
     refine Wp.seqI ?_
     refine Wp.regI I0.mono ?_
     refine GL.move I0.mono (by conv => lhs; whnf) ?_
     refine GL.move I0.mono (by conv => lhs; whnf) ?_
     refine GL.bin I0.mono rfl ?_
     refine GL.doneF ?_
     refine goOn ?_
     refine Wp.condI rfl (fun h170 => ?_) (fun h170 => ?_)
     ·replace h170 := of_decide_eq_true h170
      refine Wp.skipI ?_
      refine goOn ?_
      refine Wp.seqI ?_
      refine Wp.blockI ?_
      refine Wp.seqI ?_
      refine Wp.regI I0.mono ?_
      refine GL.assign I0.mono (by conv => lhs; whnf) ?_
      refine GL.doneF ?_
      refine goOn ?_
      refine Wp.seqI ?_
      refine Wp.seqI ?_
      refine Wp.regI I0.mono ?_
      refine GL.assign I0.mono (by conv => lhs; whnf) ?_
      refine GL.doneF ?_
      refine goWeak (Weak.nilSlot (j := 16) 700005 1 rfl) ?_
      refine Wp.blockI ?_
      refine Wp.loopI I0.mono (α := Nat × Nat) (fun ⟨y, ge⟩ st => (y ≤ nStops z + 1) ∧ ∃ m0, st = ⟨(updS (updS (updS (updS (updS (updS (updS (updS (fun _ => LV.undef) 0 (.sl (em ni z))) 2 (.ref 128 g2 0 0)) 3 (.fn 14 [])) 4 (.ref 256 g4 0 0)) 7 (.int .i64 (2 + within (num z 4) 7))) 15 (.int .i64 (k : Int))) 16 (.own 700005 ge 0 y none)) 17 (.int .i64 (y : Int))), effM m0 [(128, ⟨g2, false, .var, 4, [[.nils, .nils, .nils, .nils]]⟩), (256, ⟨g4, false, .var, 4, [[.own 700001 ga 0 (nCars z) none, .own 700002 gb 0 (nStops z) none, .own 700003 gc 0 (nPairs z) none, .own 700004 gd 0 k none]]⟩), (700001, ⟨ga, false, .slc, 3, em nc (cars z (nCars z))⟩), (700002, ⟨gb, false, .slc, 4, em ns (stopsK z (stops0 z (nStops z)) (nPairs z))⟩), (700003, ⟨gc, false, .slc, 2, em np (pairsK z (nPairs z))⟩), (700004, ⟨gd, false, .slc, 1, em nr (Mv.ways z (nStops z + 1) k)⟩), (700005, ⟨ge, false, .slc, 1, em ni (wayRow z k y)⟩)]⟩) (fun ⟨y, ge⟩ => nStops z + 1 - y) ⟨0, _⟩ ⟨_, (LessS.weak (LessS.upd (LessS.upd (LessS.upd (LessS.upd (LessS.upd (LessS.upd (LessS.upd (LessS.upd (LessS.nil _) rfl) rfl) rfl) rfl) rfl) rfl) rfl) rfl) _), (Nat.zero_le _), _, (congrArg (St.mk _) (effM_eq (Has.cons rfl (Has.cons rfl (Has.cons rfl (Has.cons rfl (Has.cons rfl (Has.cons rfl (Has.cons rfl Has.nil)))))))).symm)⟩ ?_
      rintro ⟨y, ge⟩ _ ⟨hj, m0, rfl⟩
      refine Wp.seqI ?_
      refine Wp.seqI ?_
      refine Wp.regI I0.mono ?_
      refine GL.move I0.mono (by conv => lhs; whnf) ?_
      refine GL.move I0.mono (by conv => lhs; whnf) ?_
      refine GL.bin I0.mono rfl ?_
      refine GL.doneF ?_
      refine goOn ?_
      refine Wp.condI rfl (fun h175 => ?_) (fun h175 => ?_)
      ·replace h175 := of_decide_eq_true h175
       refine Wp.skipI ?_
       refine goOn ?_
       refine Wp.seqI ?_
       refine Wp.blockI ?_
       refine Wp.seqI ?_
       refine Wp.regI I0.mono ?_
       refine GL.move I0.mono (by conv => lhs; whnf) ?_
       refine GL.move I0.mono (by conv => lhs; whnf) ?_
       refine GL.move I0.mono (by conv => lhs; whnf) ?_
       refine GL.mulR I0.mono rfl rfl (by omega) ?_
       refine GL.addR I0.mono rfl rfl (by omega) ?_
       refine GL.move I0.mono (by conv => lhs; whnf) ?_
       refine GL.mulR I0.mono rfl rfl (by omega) ?_
       refine GL.addR I0.mono rfl rfl (by omega) ?_
       refine GL.call0 I0.mono rfl (Frz.aggc (by exact Frz.pure rfl) (Frz.aggc (by exact Frz.pure rfl) (Frz.aggn))) (num_ok z hz _ (by omega) (by omega)) rfl rfl (fun _ => rfl) ?_
       refine GL.call0 I0.mono rfl (Frz.aggc (by exact Frz.pure rfl) (Frz.aggc (by exact Frz.pure rfl) (Frz.aggn))) (within_ok _ 14 (by decide)) rfl rfl (fun _ => rfl) ?_
       have hw14 := within_in (a := num z (20 + 3 * (k : Int) + 5 * (y : Int))) (n := 14) (by decide)
       refine GL.addR I0.mono rfl rfl (by omega) ?_
       refine GL.assign I0.mono (by conv => lhs; whnf) ?_
       refine GL.doneF ?_
       refine goOn ?_
       refine Wp.seqI ?_
       refine Wp.seqI ?_
       refine Wp.regI I0.mono ?_
       refine GL.move I0.mono (by conv => lhs; whnf) ?_
       refine GL.move I0.mono (by conv => lhs; whnf) ?_
       refine GL.bin I0.mono rfl ?_
       refine GL.doneF ?_
       refine goOn ?_
       refine Wp.condI rfl (fun h191 => ?_) (fun h191 => ?_)
       ·replace h191 := of_decide_eq_true h191
        refine Wp.regI I0.mono ?_
        refine GL.assign I0.mono (by conv => lhs; whnf) ?_
        refine GL.doneF ?_
        refine goOn ?_
        refine Wp.regI I0.mono ?_
        refine GL.move I0.mono (by conv => lhs; whnf) ?_
        refine GL.move I0.mono (by conv => lhs; whnf) ?_
        refine GL.buildSlice0 I0.mono (sz := 1) (z := [LV.int .i64 0]) rfl rfl rfl rfl (by decide) (by decide) (by decide) (FrzP.cons (S := []) (T := []) (Frz.aggc (S := []) (T := []) (Frz.pure rfl) Frz.aggn) rfl (by decide) rfl (FrzP.nil)) (by conv => lhs; simp only [fillE, List.replicate, List.map, pureC, List.set_cons_zero, List.set_cons_succ]) ?_
        intro g194
        refine GL.append1 I0.mono (f := ni) (v := wayOf z k y) (sz := 1) (z := [.int .i64 0]) rfl rfl rfl rfl rfl (by decide) (Nat.le_of_ble_eq_true rfl) rfl rfl rfl rfl rfl rfl rfl (by simp [wayRow]) rfl rfl rfl rfl rfl (by (simp only [ni, wayOf, if_pos h191]; rfl)) rfl rfl (by omega) ?_
        rw [← wayRow_succ]
        refine GL.assign I0.mono (by conv => lhs; whnf) ?_
        refine GL.doneF ?_
        refine blockX.normal ?_
        refine goOn ?_
        refine Wp.regI I0.mono ?_
        refine GL.move I0.mono (by conv => lhs; whnf) ?_
        refine GL.addR I0.mono rfl rfl (by omega) ?_
        refine GL.assign I0.mono (by conv => lhs; whnf) ?_
        refine GL.doneF ?_
        refine ⟨⟨y + 1, _⟩, (by dsimp only; omega), _, (LessS.weak (LessS.upd (LessS.upd (LessS.upd (LessS.upd (LessS.upd (LessS.upd (LessS.upd (LessS.upd (LessS.nil _) rfl) rfl) rfl) rfl) rfl) rfl) rfl) rfl) _), (by omega), _, (congrArg (St.mk _) (effM_eq (Has.cons rfl (Has.cons rfl (Has.cons rfl (Has.cons rfl (Has.cons rfl (Has.cons rfl (Has.cons rfl Has.nil)))))))).symm)⟩
       ·replace h191 := of_decide_eq_false h191
        refine Wp.skipI ?_
        refine goOn ?_
        refine Wp.regI I0.mono ?_
        refine GL.move I0.mono (by conv => lhs; whnf) ?_
        refine GL.move I0.mono (by conv => lhs; whnf) ?_
        refine GL.buildSlice0 I0.mono (sz := 1) (z := [LV.int .i64 0]) rfl rfl rfl rfl (by decide) (by decide) (by decide) (FrzP.cons (S := []) (T := []) (Frz.aggc (S := []) (T := []) (Frz.pure rfl) Frz.aggn) rfl (by decide) rfl (FrzP.nil)) (by conv => lhs; simp only [fillE, List.replicate, List.map, pureC, List.set_cons_zero, List.set_cons_succ]) ?_
        intro g194
        refine GL.append1 I0.mono (f := ni) (v := wayOf z k y) (sz := 1) (z := [.int .i64 0]) rfl rfl rfl rfl rfl (by decide) (Nat.le_of_ble_eq_true rfl) rfl rfl rfl rfl rfl rfl rfl (by simp [wayRow]) rfl rfl rfl rfl rfl (by (simp only [ni, wayOf, if_neg h191]; rfl)) rfl rfl (by omega) ?_
        rw [← wayRow_succ]
        refine GL.assign I0.mono (by conv => lhs; whnf) ?_
        refine GL.doneF ?_
        refine blockX.normal ?_
        refine goOn ?_
        refine Wp.regI I0.mono ?_
        refine GL.move I0.mono (by conv => lhs; whnf) ?_
        refine GL.addR I0.mono rfl rfl (by omega) ?_
        refine GL.assign I0.mono (by conv => lhs; whnf) ?_
        refine GL.doneF ?_
        refine ⟨⟨y + 1, _⟩, (by dsimp only; omega), _, (LessS.weak (LessS.upd (LessS.upd (LessS.upd (LessS.upd (LessS.upd (LessS.upd (LessS.upd (LessS.upd (LessS.nil _) rfl) rfl) rfl) rfl) rfl) rfl) rfl) rfl) _), (by omega), _, (congrArg (St.mk _) (effM_eq (Has.cons rfl (Has.cons rfl (Has.cons rfl (Has.cons rfl (Has.cons rfl (Has.cons rfl (Has.cons rfl Has.nil)))))))).symm)⟩
      ·replace h175 := of_decide_eq_false h175
       obtain rfl : y = nStops z + 1 := by omega
       have hwl : (wayRow z k (nStops z + 1)).length = nStops z + 1 := by simp [wayRow]
       refine Wp.exitI ?_
       refine thenX.exit ?_
       refine thenX.exit ?_
       refine blockX.out ?_
       refine goOn ?_
       refine Wp.regI I0.mono ?_
       refine GL.fieldAddr I0.mono (o := 3) rfl rfl rfl rfl (by conv => lhs; whnf) ?_
       refine GL.load I0.mono rfl rfl rfl rfl (by simp) (by rfl) rfl ?_
       refine GL.move I0.mono (by conv => lhs; whnf) ?_
       refine GL.buildSliceM I0.mono (sz := 1) (z := [LV.nils]) rfl rfl rfl rfl (by decide) (by decide) (by decide) (FrzP.cons (Frz.aggc (by exact Frz.whole rfl rfl rfl rfl (by (rw [em_len]; omega))) Frz.aggn) rfl (by decide) rfl (FrzP.nil)) rfl (by conv => lhs; simp only [fillE, List.replicate, List.map, pureC, List.set_cons_zero, List.set_cons_succ]) ?_
       intro g199
       refine GL.append1 I0.mono (f := nr) (v := wayRow z k (nStops z + 1)) (sz := 1) (z := [.nils]) rfl rfl rfl rfl rfl (by decide) (Nat.le_of_ble_eq_true rfl) rfl rfl rfl rfl rfl rfl rfl (by simp [Mv.ways]) rfl rfl rfl rfl rfl rfl rfl rfl (by omega) ?_
       rw [← ways_succ]
       refine GL.fieldAddr I0.mono (o := 3) rfl rfl rfl rfl (by conv => lhs; whnf) ?_
       refine GL.store I0.mono (n := 1) rfl rfl rfl rfl rfl rfl rfl rfl rfl rfl (Nat.le_of_ble_eq_true rfl) (by (conv => lhs; simp only [List.take_succ_cons, List.take_zero, List.drop_succ_cons, List.drop_zero, List.nil_append, List.cons_append, List.drop_nil, List.append_nil, List.take_nil, List.set_cons_zero, List.set_cons_succ, Nat.zero_add, ni, nr, nc, ns, np, ic])) (by (conv => lhs; simp only [List.take_succ_cons, List.take_zero, List.drop_succ_cons, List.drop_zero, List.nil_append, List.cons_append, List.drop_nil, List.append_nil, List.take_nil, List.set_cons_zero, List.set_cons_succ, Nat.zero_add, ni, nr, nc, ns, np, ic])) ?_
       refine GL.doneF ?_
       refine blockX.normal ?_
       refine goOn ?_
       refine Wp.regI I0.mono ?_
       refine GL.move I0.mono (by conv => lhs; whnf) ?_
       refine GL.addR I0.mono rfl rfl (by omega) ?_
       refine GL.assign I0.mono (by conv => lhs; whnf) ?_
       refine GL.doneF ?_
       refine ⟨⟨k + 1, _, _, _, _⟩, (by dsimp only; omega), _, (LessS.weak (LessS.upd (LessS.upd (LessS.upd (LessS.upd (LessS.upd (LessS.upd (LessS.nil _) rfl) rfl) rfl) rfl) rfl) rfl) _), (by omega), _, (congrArg (St.mk _) (effM_eq (Has.cons rfl (Has.cons rfl (Has.cons rfl (Has.cons rfl (Has.cons rfl (Has.cons rfl Has.nil))))))).symm)⟩
     ·replace h170 := of_decide_eq_false h170
      obtain rfl : k = nStops z + 1 := by omega
      have e1 := cars_len z (nCars z)
      have e2 : (stopsK z (stops0 z (nStops z)) (nPairs z)).length = nStops z := by rw [stopsK_len, stops0_len]
      have e3 : (pairsK z (nPairs z)).length = nPairs z := by simp [pairsK]
      have e4 : (Mv.ways z (nStops z + 1) (nStops z + 1)).length = nStops z + 1 := by simp [Mv.ways]
      refine Wp.exitI ?_
      refine thenX.exit ?_
      refine thenX.exit ?_
      refine blockX.out ?_
      refine goOn ?_
      refine Wp.seqI ?_
      refine Wp.regI I0.mono ?_
      refine GL.loadW I0.mono (n := 4) rfl rfl rfl rfl (by simp) (by rfl) rfl rfl ?_
      refine GL.storeW I0.mono (n := 4) rfl rfl rfl rfl rfl rfl rfl (by conv => lhs; whnf) rfl rfl rfl ?_
      refine GL.doneF ?_
      refine goOn ?_
      refine Wp.retI ?_
      refine RetX.ret ?_
      refine ⟨_, _, _, _, .cons (.cellA (n := 4) rfl rfl rfl (by simp) rfl rfl rfl (Nat.le_of_ble_eq_true rfl)) .nil, .aggc (.slo rfl rfl rfl rfl (by (rw [em_len]; simp; omega))) (.aggc (.slo rfl rfl rfl rfl (by (rw [em_len]; simp; omega))) (.aggc (.slo rfl rfl rfl rfl (by (rw [em_len]; simp; omega))) (.aggc (.slo rfl rfl rfl rfl (by (rw [em_len]; simp; omega))) .aggn))), (by decide), by simp, ?_⟩
      rfl


theorem inst_ok (z : List Int) (hz : Ints z) : CallsV Try.prog 81 [.sl (em ni z)] (ei (instOf z)) := (inst_own z hz).freeze rfl

end Go.Proofs.Ytffnlhjdlhpmjaa
