/- May a problem be: walked. -/
import Derived.Test.YtffnlhjdlhpmjaaProg
import Derived.Test.YtffnlhjdlhpmjaaKf
import Derived.Test.YtffnlhjdlhpmjaaMvD
import Derived.KernelRfl
set_option linter.all false
namespace Go.Proofs.Ytffnlhjdlhpmjaa
open Go.Proofs Mv
set_option maxRecDepth 100000 in
set_option maxHeartbeats 4000000 in
theorem iwithin_ok (a b c : Int) : CallsV Try.prog 115 [.int .i64 a, .int .i64 b, .int .i64 c] (.bool (between a b c)) := by
  refine CallsR.intro (I0.sound _) mix Try.func115 rfl rfl (by simp [Try.f115]) (by kernel_rfl) (nb := 0) ?_
  unfold Try.f115
  refine Wp.seqI ?_
  refine Wp.regI I0.mono ?_
  refine GL.assign I0.mono (by conv => lhs; whnf) ?_
  refine GL.doneF ?_
  refine goOn ?_
  refine Wp.seqI ?_
  refine Wp.regI I0.mono ?_
  refine GL.move I0.mono (by conv => lhs; whnf) ?_
  refine GL.move I0.mono (by conv => lhs; whnf) ?_
  refine GL.bin I0.mono rfl ?_
  refine GL.move I0.mono (by conv => lhs; whnf) ?_
  refine GL.splitAt 10 rfl (fun h10 => ?_) (fun h10 => ?_)
  ·rw [h10]
   replace h10 := of_decide_eq_true h10
   refine GL.guardT rfl ?_
   refine GL.move I0.mono (by conv => lhs; whnf) ?_
   refine GL.guardT rfl ?_
   refine GL.move I0.mono (by conv => lhs; whnf) ?_
   refine GL.guardT rfl ?_
   refine GL.bin I0.mono rfl ?_
   refine GL.pick I0.mono rfl (by conv => lhs; whnf) ?_
   refine GL.assign I0.mono (by conv => lhs; whnf) ?_
   refine GL.doneF ?_
   refine goOn ?_
   refine Wp.retI ?_
   refine RetX.ret ?_
   refine ⟨_, _, _, _, .cons (.tmp rfl) .nil, .frz (.pure rfl), List.nodup_nil, by simp, ?_⟩
   show LV.bool _ = LV.bool _
   congr 1
   simp only [between, ge_iff_le] at *
   (simp [*]; done)
  ·rw [h10]
   replace h10 := of_decide_eq_false h10
   refine GL.guardF rfl ?_
   refine GL.guardF rfl ?_
   refine GL.guardF rfl ?_
   refine GL.pick I0.mono rfl (by conv => lhs; whnf) ?_
   refine GL.assign I0.mono (by conv => lhs; whnf) ?_
   refine GL.doneF ?_
   refine goOn ?_
   refine Wp.retI ?_
   refine RetX.ret ?_
   refine ⟨_, _, _, _, .cons (.tmp rfl) .nil, .frz (.pure rfl), List.nodup_nil, by simp, ?_⟩
   show LV.bool _ = LV.bool _
   congr 1
   simp only [between, ge_iff_le] at *
   (simp [*]; done)

set_option maxRecDepth 100000 in
set_option maxHeartbeats 4000000 in
theorem rwithin_ok (a b c : Int) : CallsV Try.prog 114 [.int .i64 a, .int .i64 b, .int .i64 c] (.bool (between a b c)) := by
  refine CallsR.intro (I0.sound _) mix Try.func114 rfl rfl (by simp [Try.f114]) (by kernel_rfl) (nb := 0) ?_
  unfold Try.f114
  refine Wp.seqI ?_
  refine Wp.regI I0.mono ?_
  refine GL.assign I0.mono (by conv => lhs; whnf) ?_
  refine GL.doneF ?_
  refine goOn ?_
  refine Wp.seqI ?_
  refine Wp.regI I0.mono ?_
  refine GL.move I0.mono (by conv => lhs; whnf) ?_
  refine GL.move I0.mono (by conv => lhs; whnf) ?_
  refine GL.bin I0.mono rfl ?_
  refine GL.move I0.mono (by conv => lhs; whnf) ?_
  refine GL.splitAt 10 rfl (fun h10 => ?_) (fun h10 => ?_)
  ·rw [h10]
   replace h10 := of_decide_eq_true h10
   refine GL.guardT rfl ?_
   refine GL.move I0.mono (by conv => lhs; whnf) ?_
   refine GL.guardT rfl ?_
   refine GL.move I0.mono (by conv => lhs; whnf) ?_
   refine GL.guardT rfl ?_
   refine GL.bin I0.mono rfl ?_
   refine GL.pick I0.mono rfl (by conv => lhs; whnf) ?_
   refine GL.assign I0.mono (by conv => lhs; whnf) ?_
   refine GL.doneF ?_
   refine goOn ?_
   refine Wp.retI ?_
   refine RetX.ret ?_
   refine ⟨_, _, _, _, .cons (.tmp rfl) .nil, .frz (.pure rfl), List.nodup_nil, by simp, ?_⟩
   show LV.bool _ = LV.bool _
   congr 1
   simp only [between, ge_iff_le] at *
   (simp [*]; done)
  ·rw [h10]
   replace h10 := of_decide_eq_false h10
   refine GL.guardF rfl ?_
   refine GL.guardF rfl ?_
   refine GL.guardF rfl ?_
   refine GL.pick I0.mono rfl (by conv => lhs; whnf) ?_
   refine GL.assign I0.mono (by conv => lhs; whnf) ?_
   refine GL.doneF ?_
   refine goOn ?_
   refine Wp.retI ?_
   refine RetX.ret ?_
   refine ⟨_, _, _, _, .cons (.tmp rfl) .nil, .frz (.pure rfl), List.nodup_nil, by simp, ?_⟩
   show LV.bool _ = LV.bool _
   congr 1
   simp only [between, ge_iff_le] at *
   (simp [*]; done)

set_option maxRecDepth 100000 in
set_option maxHeartbeats 4000000 in
theorem icar_ok (c : Car) : CallsV Try.prog 117 [.agg (nc c)] (.bool (carOk c)) := by
  refine CallsR.intro (I0.sound _) mix Try.func117 rfl rfl (by simp [Try.f117]) (by kernel_rfl) (nb := 0) ?_
  unfold Try.f117
  refine Wp.seqI ?_
  refine Wp.regI I0.mono ?_
  refine GL.box I0.mono (by conv => lhs; whnf) rfl (n := 3) rfl rfl ?_
  intro g1
  refine GL.assign I0.mono (by conv => lhs; whnf) ?_
  refine GL.doneF ?_
  refine goOn ?_
  refine Wp.seqI ?_
  refine Wp.regI I0.mono ?_
  refine GL.fieldAddr I0.mono (o := 0) rfl rfl rfl rfl (by conv => lhs; whnf) ?_
  refine GL.load I0.mono rfl rfl rfl rfl (by simp) rfl rfl ?_
  refine GL.call0 I0.mono rfl (Frz.aggc (by exact Frz.pure rfl) (Frz.aggc (by exact Frz.pure rfl) (Frz.aggc (by exact Frz.pure rfl) (Frz.aggn)))) (iwithin_ok _ _ _) rfl rfl (fun _ => rfl) ?_
  refine GL.move I0.mono (by conv => lhs; whnf) ?_
  refine GL.splitAt 6 rfl (fun h6 => ?_) (fun h6 => ?_)
  ·rw [h6]
   skip
   refine GL.guardT rfl ?_
   refine GL.fieldAddr I0.mono (o := 2) rfl rfl rfl rfl (by conv => lhs; whnf) ?_
   refine GL.guardT rfl ?_
   refine GL.load I0.mono rfl rfl rfl rfl (by simp) rfl rfl ?_
   refine GL.guardT rfl ?_
   refine GL.call0 I0.mono rfl (Frz.aggc (by exact Frz.pure rfl) (Frz.aggc (by exact Frz.pure rfl) (Frz.aggc (by exact Frz.pure rfl) (Frz.aggn)))) (iwithin_ok _ _ _) rfl rfl (fun _ => rfl) ?_
   refine GL.pick I0.mono rfl (by conv => lhs; whnf) ?_
   refine GL.move I0.mono (by conv => lhs; whnf) ?_
   refine GL.splitAt 11 rfl (fun h11 => ?_) (fun h11 => ?_)
   ·rw [h11]
    skip
    refine GL.guardT rfl ?_
    refine GL.fieldAddr I0.mono (o := 1) rfl rfl rfl rfl (by conv => lhs; whnf) ?_
    refine GL.guardT rfl ?_
    refine GL.load I0.mono rfl rfl rfl rfl (by simp) rfl rfl ?_
    refine GL.guardT rfl ?_
    refine GL.fieldAddr I0.mono (o := 2) rfl rfl rfl rfl (by conv => lhs; whnf) ?_
    refine GL.guardT rfl ?_
    refine GL.load I0.mono rfl rfl rfl rfl (by simp) rfl rfl ?_
    refine GL.guardT rfl ?_
    refine GL.call0 I0.mono rfl (Frz.aggc (by exact Frz.pure rfl) (Frz.aggc (by exact Frz.pure rfl) (Frz.aggc (by exact Frz.pure rfl) (Frz.aggn)))) (iwithin_ok _ _ _) rfl rfl (fun _ => rfl) ?_
    refine GL.pick I0.mono rfl (by conv => lhs; whnf) ?_
    refine GL.assign I0.mono (by conv => lhs; whnf) ?_
    refine GL.doneF ?_
    refine goOn ?_
    refine Wp.retI ?_
    refine RetX.ret ?_
    refine ⟨_, _, _, _, .cons (.tmp rfl) .nil, .frz (.pure rfl), List.nodup_nil, by simp, ?_⟩
    show LV.bool _ = LV.bool _
    congr 1
    unfold carOk
    simp_all
   ·rw [h11]
    skip
    refine GL.guardF rfl ?_
    refine GL.guardF rfl ?_
    refine GL.guardF rfl ?_
    refine GL.guardF rfl ?_
    refine GL.guardF rfl ?_
    refine GL.pick I0.mono rfl (by conv => lhs; whnf) ?_
    refine GL.assign I0.mono (by conv => lhs; whnf) ?_
    refine GL.doneF ?_
    refine goOn ?_
    refine Wp.retI ?_
    refine RetX.ret ?_
    refine ⟨_, _, _, _, .cons (.tmp rfl) .nil, .frz (.pure rfl), List.nodup_nil, by simp, ?_⟩
    show LV.bool _ = LV.bool _
    congr 1
    unfold carOk
    simp_all
  ·rw [h6]
   skip
   refine GL.guardF rfl ?_
   refine GL.guardF rfl ?_
   refine GL.guardF rfl ?_
   refine GL.pick I0.mono rfl (by conv => lhs; whnf) ?_
   refine GL.move I0.mono (by conv => lhs; whnf) ?_
   refine GL.guardF rfl ?_
   refine GL.guardF rfl ?_
   refine GL.guardF rfl ?_
   refine GL.guardF rfl ?_
   refine GL.guardF rfl ?_
   refine GL.pick I0.mono rfl (by conv => lhs; whnf) ?_
   refine GL.assign I0.mono (by conv => lhs; whnf) ?_
   refine GL.doneF ?_
   refine goOn ?_
   refine Wp.retI ?_
   refine RetX.ret ?_
   refine ⟨_, _, _, _, .cons (.tmp rfl) .nil, .frz (.pure rfl), List.nodup_nil, by simp, ?_⟩
   show LV.bool _ = LV.bool _
   congr 1
   unfold carOk
   simp_all

set_option maxRecDepth 100000 in
set_option maxHeartbeats 4000000 in
theorem istop_ok (s : Stop) : CallsV Try.prog 119 [.agg (ns s)] (.bool (stopOk s)) := by
  refine CallsR.intro (I0.sound _) mix Try.func119 rfl rfl (by simp [Try.f119]) (by kernel_rfl) (nb := 0) ?_
  unfold Try.f119
  refine Wp.seqI ?_
  refine Wp.regI I0.mono ?_
  refine GL.box I0.mono (by conv => lhs; whnf) rfl (n := 4) rfl rfl ?_
  intro g1
  refine GL.assign I0.mono (by conv => lhs; whnf) ?_
  refine GL.doneF ?_
  refine goOn ?_
  refine Wp.seqI ?_
  refine Wp.regI I0.mono ?_
  refine GL.fieldAddr I0.mono (o := 0) rfl rfl rfl rfl (by conv => lhs; whnf) ?_
  refine GL.load I0.mono rfl rfl rfl rfl (by simp) rfl rfl ?_
  refine GL.call0 I0.mono rfl (Frz.aggc (by exact Frz.pure rfl) (Frz.aggc (by exact Frz.pure rfl) (Frz.aggc (by exact Frz.pure rfl) (Frz.aggn)))) (iwithin_ok _ _ _) rfl rfl (fun _ => rfl) ?_
  refine GL.move I0.mono (by conv => lhs; whnf) ?_
  refine GL.splitAt 6 rfl (fun h6 => ?_) (fun h6 => ?_)
  ·rw [h6]
   skip
   refine GL.guardT rfl ?_
   refine GL.fieldAddr I0.mono (o := 2) rfl rfl rfl rfl (by conv => lhs; whnf) ?_
   refine GL.guardT rfl ?_
   refine GL.load I0.mono rfl rfl rfl rfl (by simp) rfl rfl ?_
   refine GL.guardT rfl ?_
   refine GL.call0 I0.mono rfl (Frz.aggc (by exact Frz.pure rfl) (Frz.aggc (by exact Frz.pure rfl) (Frz.aggc (by exact Frz.pure rfl) (Frz.aggn)))) (iwithin_ok _ _ _) rfl rfl (fun _ => rfl) ?_
   refine GL.pick I0.mono rfl (by conv => lhs; whnf) ?_
   refine GL.move I0.mono (by conv => lhs; whnf) ?_
   refine GL.splitAt 11 rfl (fun h11 => ?_) (fun h11 => ?_)
   ·rw [h11]
    skip
    refine GL.guardT rfl ?_
    refine GL.fieldAddr I0.mono (o := 1) rfl rfl rfl rfl (by conv => lhs; whnf) ?_
    refine GL.guardT rfl ?_
    refine GL.load I0.mono rfl rfl rfl rfl (by simp) rfl rfl ?_
    refine GL.guardT rfl ?_
    refine GL.fieldAddr I0.mono (o := 2) rfl rfl rfl rfl (by conv => lhs; whnf) ?_
    refine GL.guardT rfl ?_
    refine GL.load I0.mono rfl rfl rfl rfl (by simp) rfl rfl ?_
    refine GL.guardT rfl ?_
    refine GL.call0 I0.mono rfl (Frz.aggc (by exact Frz.pure rfl) (Frz.aggc (by exact Frz.pure rfl) (Frz.aggc (by exact Frz.pure rfl) (Frz.aggn)))) (iwithin_ok _ _ _) rfl rfl (fun _ => rfl) ?_
    refine GL.pick I0.mono rfl (by conv => lhs; whnf) ?_
    refine GL.move I0.mono (by conv => lhs; whnf) ?_
    refine GL.splitAt 18 rfl (fun h18 => ?_) (fun h18 => ?_)
    ·rw [h18]
     skip
     refine GL.guardT rfl ?_
     refine GL.fieldAddr I0.mono (o := 3) rfl rfl rfl rfl (by conv => lhs; whnf) ?_
     refine GL.guardT rfl ?_
     refine GL.load I0.mono rfl rfl rfl rfl (by simp) rfl rfl ?_
     refine GL.guardT rfl ?_
     refine GL.call0 I0.mono rfl (Frz.aggc (by exact Frz.pure rfl) (Frz.aggc (by exact Frz.pure rfl) (Frz.aggc (by exact Frz.pure rfl) (Frz.aggn)))) (iwithin_ok _ _ _) rfl rfl (fun _ => rfl) ?_
     refine GL.pick I0.mono rfl (by conv => lhs; whnf) ?_
     refine GL.assign I0.mono (by conv => lhs; whnf) ?_
     refine GL.doneF ?_
     refine goOn ?_
     refine Wp.retI ?_
     refine RetX.ret ?_
     refine ⟨_, _, _, _, .cons (.tmp rfl) .nil, .frz (.pure rfl), List.nodup_nil, by simp, ?_⟩
     show LV.bool _ = LV.bool _
     congr 1
     unfold stopOk
     simp_all
    ·rw [h18]
     skip
     refine GL.guardF rfl ?_
     refine GL.guardF rfl ?_
     refine GL.guardF rfl ?_
     refine GL.pick I0.mono rfl (by conv => lhs; whnf) ?_
     refine GL.assign I0.mono (by conv => lhs; whnf) ?_
     refine GL.doneF ?_
     refine goOn ?_
     refine Wp.retI ?_
     refine RetX.ret ?_
     refine ⟨_, _, _, _, .cons (.tmp rfl) .nil, .frz (.pure rfl), List.nodup_nil, by simp, ?_⟩
     show LV.bool _ = LV.bool _
     congr 1
     unfold stopOk
     simp_all
   ·rw [h11]
    skip
    refine GL.guardF rfl ?_
    refine GL.guardF rfl ?_
    refine GL.guardF rfl ?_
    refine GL.guardF rfl ?_
    refine GL.guardF rfl ?_
    refine GL.pick I0.mono rfl (by conv => lhs; whnf) ?_
    refine GL.move I0.mono (by conv => lhs; whnf) ?_
    refine GL.guardF rfl ?_
    refine GL.guardF rfl ?_
    refine GL.guardF rfl ?_
    refine GL.pick I0.mono rfl (by conv => lhs; whnf) ?_
    refine GL.assign I0.mono (by conv => lhs; whnf) ?_
    refine GL.doneF ?_
    refine goOn ?_
    refine Wp.retI ?_
    refine RetX.ret ?_
    refine ⟨_, _, _, _, .cons (.tmp rfl) .nil, .frz (.pure rfl), List.nodup_nil, by simp, ?_⟩
    show LV.bool _ = LV.bool _
    congr 1
    unfold stopOk
    simp_all
  ·rw [h6]
   skip
   refine GL.guardF rfl ?_
   refine GL.guardF rfl ?_
   refine GL.guardF rfl ?_
   refine GL.pick I0.mono rfl (by conv => lhs; whnf) ?_
   refine GL.move I0.mono (by conv => lhs; whnf) ?_
   refine GL.guardF rfl ?_
   refine GL.guardF rfl ?_
   refine GL.guardF rfl ?_
   refine GL.guardF rfl ?_
   refine GL.guardF rfl ?_
   refine GL.pick I0.mono rfl (by conv => lhs; whnf) ?_
   refine GL.move I0.mono (by conv => lhs; whnf) ?_
   refine GL.guardF rfl ?_
   refine GL.guardF rfl ?_
   refine GL.guardF rfl ?_
   refine GL.pick I0.mono rfl (by conv => lhs; whnf) ?_
   refine GL.assign I0.mono (by conv => lhs; whnf) ?_
   refine GL.doneF ?_
   refine goOn ?_
   refine Wp.retI ?_
   refine RetX.ret ?_
   refine ⟨_, _, _, _, .cons (.tmp rfl) .nil, .frz (.pure rfl), List.nodup_nil, by simp, ?_⟩
   show LV.bool _ = LV.bool _
   congr 1
   unfold stopOk
   simp_all

set_option maxRecDepth 100000 in
set_option maxHeartbeats 4000000 in
theorem allC_ok (l : List Car) (hl : Short l) : CallsV Try.prog 116 [.sl (em nc l), .fn 117 []] (.bool (l.all carOk)) := by
  refine CallsR.intro (I0.sound _) mix Try.func116 rfl rfl (by simp [Try.f116]) (by kernel_rfl) (nb := 0) ?_
  unfold Try.f116
  refine Wp.seqI ?_
  unfold Short at hl
  refine Wp.regI I0.mono ?_
  refine GL.assign I0.mono (by conv => lhs; whnf) ?_
  refine GL.doneF ?_
  refine goOn ?_
  refine Wp.seqI ?_
  refine Wp.seqI ?_
  refine Wp.regI I0.mono ?_
  refine GL.move I0.mono (by conv => lhs; whnf) ?_
  refine GL.lenF I0.mono rfl rfl (em_len _ _) ?_
  refine GL.move I0.mono (by conv => lhs; whnf) ?_
  refine GL.doneF ?_
  refine goOn ?_
  refine Wp.blockI ?_
  refine Wp.loopI I0.mono (α := Nat) (fun i st => (i ≤ l.length ∧ ∀ j, j < i → carOk (l.getD j default) = true) ∧ ∃ m0, st = ⟨(updS (updS (updS (updS (fun _ => LV.undef) 1 (.fn 117 [])) 7 (.sl (em nc l))) 8 (.int .i64 (l.length : Int))) 9 (.int .i64 (i : Int))), effM m0 []⟩) (fun i => l.length - i) 0 ⟨_, (LessS.weak (LessS.upd (LessS.upd (LessS.upd (LessS.upd (LessS.nil _) rfl) rfl) rfl) rfl) _), ⟨Nat.zero_le _, fun j h => by omega⟩, _, (congrArg (St.mk _) (effM_eq Has.nil).symm)⟩ ?_
  rintro i _ ⟨⟨hi, hA⟩, m0, rfl⟩
  refine Wp.seqI ?_
  refine Wp.regI I0.mono ?_
  refine GL.bin I0.mono rfl ?_
  refine GL.doneF ?_
  refine goOn ?_
  refine Wp.seqI ?_
  refine Wp.condI rfl (fun h10 => ?_) (fun h10 => ?_)
  ·replace h10 := of_decide_eq_true h10
   refine Wp.skipI ?_
   refine goOn ?_
   refine Wp.seqI ?_
   refine Wp.blockI ?_
   refine Wp.seqI ?_
   refine Wp.regI I0.mono ?_
   refine GL.indexAddrF I0.mono (sz := 3) rfl rfl rfl rfl (by omega) (by (rw [em_len]; omega)) (by intro e he; obtain ⟨a, -, rfl⟩ := List.mem_map.1 he; rfl) (by with_reducible exact Int.toNat_natCast _) ?_
   refine GL.loadFW I0.mono (n := 3) rfl rfl (em_get (by omega)) rfl rfl ?_
   refine GL.alloc I0.mono (cs := [LV.int .i64 0, LV.int .i64 0, LV.int .i64 0]) rfl rfl ?_
   intro g6
   refine GL.storeW I0.mono (n := 3) rfl rfl rfl rfl rfl rfl rfl (by conv => lhs; whnf) rfl rfl rfl ?_
   refine GL.doneF ?_
   refine goOn ?_
   refine Wp.seqI ?_
   refine Wp.regI I0.mono ?_
   refine GL.move I0.mono (by conv => lhs; whnf) ?_
   refine GL.loadW I0.mono (n := 3) rfl rfl rfl rfl (by simp) rfl rfl rfl ?_
   refine GL.callFl I0.mono rfl (Frz.aggc (Frz.pures rfl) Frz.aggn) (icar_ok _) (.sca rfl) rfl rfl ?_
   refine GL.un I0.mono rfl ?_
   refine GL.doneF ?_
   refine goOn ?_
   refine Wp.condI rfl (fun h16 => ?_) (fun h16 => ?_)
   ·skip
    refine Wp.seqI ?_
    refine Wp.regI I0.mono ?_
    refine GL.assign I0.mono (by conv => lhs; whnf) ?_
    refine GL.doneF ?_
    refine goOn ?_
    refine Wp.retI ?_
    refine blockX.ret ?_
    refine thenX.ret ?_
    refine thenX.ret ?_
    refine blockX.ret ?_
    refine thenX.ret ?_
    refine RetX.ret ?_
    refine ⟨_, _, _, _, .cons (.tmp rfl) .nil, .frz (.pure rfl), List.nodup_nil, by simp, ?_⟩
    show LV.bool _ = LV.bool _
    congr 1
    symm
    exact all_no (k := i) (by omega) (by simpa using h16)
   ·skip
    refine Wp.skipI ?_
    refine blockX.normal ?_
    refine goOn ?_
    refine Wp.regI I0.mono ?_
    refine GL.addR I0.mono rfl rfl (by omega) ?_
    refine GL.move I0.mono (by conv => lhs; whnf) ?_
    refine GL.doneF ?_
    refine ⟨i + 1, (by dsimp only; omega), _, (LessS.weak (LessS.upd (LessS.upd (LessS.upd (LessS.upd (LessS.nil _) rfl) rfl) rfl) rfl) _), ⟨by omega, fun j h => by
          by_cases hj : j = i
          · subst hj; simpa using h16
          · exact hA j (by omega)⟩, _, (congrArg (St.mk _) (effM_eq Has.nil).symm)⟩
  ·replace h10 := of_decide_eq_false h10
   refine Wp.exitI ?_
   refine thenX.exit ?_
   refine thenX.exit ?_
   refine blockX.out ?_
   refine goOn ?_
   refine Wp.seqI ?_
   refine Wp.regI I0.mono ?_
   refine GL.assign I0.mono (by conv => lhs; whnf) ?_
   refine GL.doneF ?_
   refine goOn ?_
   refine Wp.retI ?_
   refine RetX.ret ?_
   refine ⟨_, _, _, _, .cons (.tmp rfl) .nil, .frz (.pure rfl), List.nodup_nil, by simp, ?_⟩
   show LV.bool _ = LV.bool _
   congr 1
   symm
   exact all_yes fun j hj => hA j (by omega)

set_option maxRecDepth 100000 in
set_option maxHeartbeats 4000000 in
theorem allS_ok (l : List Stop) (hl : Short l) : CallsV Try.prog 118 [.sl (em ns l), .fn 119 []] (.bool (l.all stopOk)) := by
  refine CallsR.intro (I0.sound _) mix Try.func118 rfl rfl (by simp [Try.f118]) (by kernel_rfl) (nb := 0) ?_
  unfold Try.f118
  refine Wp.seqI ?_
  unfold Short at hl
  refine Wp.regI I0.mono ?_
  refine GL.assign I0.mono (by conv => lhs; whnf) ?_
  refine GL.doneF ?_
  refine goOn ?_
  refine Wp.seqI ?_
  refine Wp.seqI ?_
  refine Wp.regI I0.mono ?_
  refine GL.move I0.mono (by conv => lhs; whnf) ?_
  refine GL.lenF I0.mono rfl rfl (em_len _ _) ?_
  refine GL.move I0.mono (by conv => lhs; whnf) ?_
  refine GL.doneF ?_
  refine goOn ?_
  refine Wp.blockI ?_
  refine Wp.loopI I0.mono (α := Nat) (fun i st => (i ≤ l.length ∧ ∀ j, j < i → stopOk (l.getD j default) = true) ∧ ∃ m0, st = ⟨(updS (updS (updS (updS (fun _ => LV.undef) 1 (.fn 119 [])) 7 (.sl (em ns l))) 8 (.int .i64 (l.length : Int))) 9 (.int .i64 (i : Int))), effM m0 []⟩) (fun i => l.length - i) 0 ⟨_, (LessS.weak (LessS.upd (LessS.upd (LessS.upd (LessS.upd (LessS.nil _) rfl) rfl) rfl) rfl) _), ⟨Nat.zero_le _, fun j h => by omega⟩, _, (congrArg (St.mk _) (effM_eq Has.nil).symm)⟩ ?_
  rintro i _ ⟨⟨hi, hA⟩, m0, rfl⟩
  refine Wp.seqI ?_
  refine Wp.regI I0.mono ?_
  refine GL.bin I0.mono rfl ?_
  refine GL.doneF ?_
  refine goOn ?_
  refine Wp.seqI ?_
  refine Wp.condI rfl (fun h10 => ?_) (fun h10 => ?_)
  ·replace h10 := of_decide_eq_true h10
   refine Wp.skipI ?_
   refine goOn ?_
   refine Wp.seqI ?_
   refine Wp.blockI ?_
   refine Wp.seqI ?_
   refine Wp.regI I0.mono ?_
   refine GL.indexAddrF I0.mono (sz := 4) rfl rfl rfl rfl (by omega) (by (rw [em_len]; omega)) (by intro e he; obtain ⟨a, -, rfl⟩ := List.mem_map.1 he; rfl) (by with_reducible exact Int.toNat_natCast _) ?_
   refine GL.loadFW I0.mono (n := 4) rfl rfl (em_get (by omega)) rfl rfl ?_
   refine GL.alloc I0.mono (cs := [LV.int .i64 0, LV.int .i64 0, LV.int .i64 0, LV.int .i64 0]) rfl rfl ?_
   intro g6
   refine GL.storeW I0.mono (n := 4) rfl rfl rfl rfl rfl rfl rfl (by conv => lhs; whnf) rfl rfl rfl ?_
   refine GL.doneF ?_
   refine goOn ?_
   refine Wp.seqI ?_
   refine Wp.regI I0.mono ?_
   refine GL.move I0.mono (by conv => lhs; whnf) ?_
   refine GL.loadW I0.mono (n := 4) rfl rfl rfl rfl (by simp) rfl rfl rfl ?_
   refine GL.callFl I0.mono rfl (Frz.aggc (Frz.pures rfl) Frz.aggn) (istop_ok _) (.sca rfl) rfl rfl ?_
   refine GL.un I0.mono rfl ?_
   refine GL.doneF ?_
   refine goOn ?_
   refine Wp.condI rfl (fun h16 => ?_) (fun h16 => ?_)
   ·skip
    refine Wp.seqI ?_
    refine Wp.regI I0.mono ?_
    refine GL.assign I0.mono (by conv => lhs; whnf) ?_
    refine GL.doneF ?_
    refine goOn ?_
    refine Wp.retI ?_
    refine blockX.ret ?_
    refine thenX.ret ?_
    refine thenX.ret ?_
    refine blockX.ret ?_
    refine thenX.ret ?_
    refine RetX.ret ?_
    refine ⟨_, _, _, _, .cons (.tmp rfl) .nil, .frz (.pure rfl), List.nodup_nil, by simp, ?_⟩
    show LV.bool _ = LV.bool _
    congr 1
    symm
    exact all_no (k := i) (by omega) (by simpa using h16)
   ·skip
    refine Wp.skipI ?_
    refine blockX.normal ?_
    refine goOn ?_
    refine Wp.regI I0.mono ?_
    refine GL.addR I0.mono rfl rfl (by omega) ?_
    refine GL.move I0.mono (by conv => lhs; whnf) ?_
    refine GL.doneF ?_
    refine ⟨i + 1, (by dsimp only; omega), _, (LessS.weak (LessS.upd (LessS.upd (LessS.upd (LessS.upd (LessS.nil _) rfl) rfl) rfl) rfl) _), ⟨by omega, fun j h => by
          by_cases hj : j = i
          · subst hj; simpa using h16
          · exact hA j (by omega)⟩, _, (congrArg (St.mk _) (effM_eq Has.nil).symm)⟩
  ·replace h10 := of_decide_eq_false h10
   refine Wp.exitI ?_
   refine thenX.exit ?_
   refine thenX.exit ?_
   refine blockX.out ?_
   refine goOn ?_
   refine Wp.seqI ?_
   refine Wp.regI I0.mono ?_
   refine GL.assign I0.mono (by conv => lhs; whnf) ?_
   refine GL.doneF ?_
   refine goOn ?_
   refine Wp.retI ?_
   refine RetX.ret ?_
   refine ⟨_, _, _, _, .cons (.tmp rfl) .nil, .frz (.pure rfl), List.nodup_nil, by simp, ?_⟩
   show LV.bool _ = LV.bool _
   congr 1
   symm
   exact all_yes fun j hj => hA j (by omega)

set_option maxRecDepth 100000 in
set_option maxHeartbeats 4000000 in
theorem travel_ok (i : Inst) (hs : i.Short) : CallsV Try.prog 121 [ei i] (.bool (travelOk i)) := by
  refine CallsR.intro (I0.sound _) mix Try.func121 rfl rfl (by simp [Try.f121]) (by kernel_rfl) (nb := 0) ?_
  unfold Try.f121
  refine Wp.seqI ?_
  have ht := hs.travel
  have hst := hs.stops
  unfold Short at ht hst
  refine Wp.regI I0.mono ?_
  refine GL.box I0.mono (by conv => lhs; whnf) rfl (n := 4) rfl rfl ?_
  intro g1
  refine GL.assign I0.mono (by conv => lhs; whnf) ?_
  refine GL.doneF ?_
  refine goOn ?_
  refine Wp.seqI ?_
  refine Wp.regI I0.mono ?_
  refine GL.fieldAddr I0.mono (o := 1) rfl rfl rfl rfl (by conv => lhs; whnf) ?_
  refine GL.load I0.mono rfl rfl rfl rfl (by simp) rfl rfl ?_
  refine GL.lenF I0.mono rfl rfl (em_len _ _) ?_
  refine GL.addR I0.mono rfl rfl (by omega) ?_
  refine GL.assign I0.mono (by conv => lhs; whnf) ?_
  refine GL.doneF ?_
  refine goOn ?_
  refine Wp.seqI ?_
  refine Wp.seqI ?_
  refine Wp.regI I0.mono ?_
  refine GL.fieldAddr I0.mono (o := 3) rfl rfl rfl rfl (by conv => lhs; whnf) ?_
  refine GL.load I0.mono rfl rfl rfl rfl (by simp) rfl rfl ?_
  refine GL.lenF I0.mono rfl rfl (em_len _ _) ?_
  refine GL.move I0.mono (by conv => lhs; whnf) ?_
  refine GL.bin I0.mono rfl ?_
  refine GL.doneF ?_
  refine goOn ?_
  refine Wp.condI rfl (fun h16 => ?_) (fun h16 => ?_)
  ·replace h16 := bne_true h16
   refine Wp.seqI ?_
   refine Wp.regI I0.mono ?_
   refine GL.assign I0.mono (by conv => lhs; whnf) ?_
   refine GL.doneF ?_
   refine goOn ?_
   refine Wp.retI ?_
   refine thenX.ret ?_
   refine RetX.ret ?_
   refine ⟨_, _, _, _, .cons (.tmp rfl) .nil, .frz (.pure rfl), List.nodup_nil, by simp, ?_⟩
   show LV.bool _ = LV.bool _
   congr 1
   symm
   unfold travelOk
   first
   | (rw [decide_eq_false (by omega)]; rfl)
   | (rw [hA, rows_end (by omega), decide_eq_true (by omega)]; rfl)
   | (rw [hA, rows_no (by omega) (by rw [rowOk, decide_eq_false (by omega)]; rfl), Bool.and_false])
   | (rw [hA, rows_no (by omega) (by rw [rowOk, decide_eq_false h35, Bool.false_and, Bool.and_false]), Bool.and_false])
   | (rw [hA, rows_no (by omega) (by rw [rowOk, all_no (k := j) (by omega) (by simpa using h44), Bool.and_false, Bool.and_false]), Bool.and_false])
  
  ·replace h16 := bne_false h16
   refine Wp.skipI ?_
   refine goOn ?_
   refine Wp.seqI ?_
   refine Wp.seqI ?_
   refine Wp.regI I0.mono ?_
   refine GL.fieldAddr I0.mono (o := 3) rfl rfl rfl rfl (by conv => lhs; whnf) ?_
   refine GL.load I0.mono rfl rfl rfl rfl (by simp) rfl rfl ?_
   refine GL.lenF I0.mono rfl rfl (em_len _ _) ?_
   refine GL.move I0.mono (by conv => lhs; whnf) ?_
   refine GL.doneF ?_
   refine goOn ?_
   refine Wp.blockI ?_
   refine Wp.loopI I0.mono (α := Nat) (fun k st => (k ≤ i.travel.length ∧ rowsGo (i.stops.length + 1) 0 i.travel = rowsGo (i.stops.length + 1) k (i.travel.drop k)) ∧ ∃ m0, st = ⟨(updS (updS (updS (updS (fun _ => LV.undef) 3 (.int .i64 ((i.stops.length : Int) + 1))) 18 (.sl (em nr i.travel))) 19 (.int .i64 (i.travel.length : Int))) 20 (.int .i64 (k : Int))), effM m0 []⟩) (fun k => i.travel.length - k) 0 ⟨_, (LessS.weak (LessS.upd (LessS.upd (LessS.upd (LessS.upd (LessS.nil _) rfl) rfl) rfl) rfl) _), ⟨Nat.zero_le _, rfl⟩, _, (congrArg (St.mk _) (effM_eq Has.nil).symm)⟩ ?_
   rintro k _ ⟨⟨hk, hA⟩, m0, rfl⟩
   refine Wp.seqI ?_
   refine Wp.regI I0.mono ?_
   refine GL.bin I0.mono rfl ?_
   refine GL.doneF ?_
   refine goOn ?_
   refine Wp.seqI ?_
   refine Wp.condI rfl (fun h21 => ?_) (fun h21 => ?_)
   ·replace h21 := of_decide_eq_true h21
    have hrow := hs.row k
    refine Wp.skipI ?_
    refine goOn ?_
    refine Wp.seqI ?_
    refine Wp.blockI ?_
    refine Wp.seqI ?_
    refine Wp.regI I0.mono ?_
    refine GL.move I0.mono (by conv => lhs; whnf) ?_
    refine GL.indexAddrF I0.mono (sz := 1) rfl rfl rfl rfl (by omega) (by (rw [em_len]; omega)) (by intro e he; obtain ⟨a, -, rfl⟩ := List.mem_map.1 he; rfl) (by with_reducible exact Int.toNat_natCast _) ?_
    refine GL.loadF I0.mono rfl rfl (em_get (by omega)) rfl ?_
    refine GL.assign I0.mono (by conv => lhs; whnf) ?_
    refine GL.assign I0.mono (by conv => lhs; whnf) ?_
    refine GL.doneF ?_
    refine goOn ?_
    refine Wp.seqI ?_
    refine Wp.seqI ?_
    refine Wp.regI I0.mono ?_
    refine GL.move I0.mono (by conv => lhs; whnf) ?_
    refine GL.lenF I0.mono rfl rfl (em_len _ _) ?_
    refine GL.move I0.mono (by conv => lhs; whnf) ?_
    refine GL.bin I0.mono rfl ?_
    refine GL.move I0.mono (by conv => lhs; whnf) ?_
    refine GL.splitAt 29 rfl (fun h29 => ?_) (fun h29 => ?_)
    ·rw [h29]
     replace h29 := bne_true h29
     refine GL.guardF rfl ?_
     refine GL.guardF rfl ?_
     refine GL.guardF rfl ?_
     refine GL.guardF rfl ?_
     refine GL.guardF rfl ?_
     refine GL.pick I0.mono rfl (by conv => lhs; whnf) ?_
     refine GL.doneF ?_
     refine goOn ?_
     refine Wp.condT rfl ?_
     refine Wp.seqI ?_
     refine Wp.regI I0.mono ?_
     refine GL.assign I0.mono (by conv => lhs; whnf) ?_
     refine GL.doneF ?_
     refine goOn ?_
     refine Wp.retI ?_
     refine thenX.ret ?_
     refine blockX.ret ?_
     refine thenX.ret ?_
     refine thenX.ret ?_
     refine blockX.ret ?_
     refine thenX.ret ?_
     refine RetX.ret ?_
     refine ⟨_, _, _, _, .cons (.tmp rfl) .nil, .frz (.pure rfl), List.nodup_nil, by simp, ?_⟩
     show LV.bool _ = LV.bool _
     congr 1
     symm
     unfold travelOk
     first
     | (rw [decide_eq_false (by omega)]; rfl)
     | (rw [hA, rows_end (by omega), decide_eq_true (by omega)]; rfl)
     | (rw [hA, rows_no (by omega) (by rw [rowOk, decide_eq_false (by omega)]; rfl), Bool.and_false])
     | (rw [hA, rows_no (by omega) (by rw [rowOk, decide_eq_false h35, Bool.false_and, Bool.and_false]), Bool.and_false])
     | (rw [hA, rows_no (by omega) (by rw [rowOk, all_no (k := j) (by omega) (by simpa using h44), Bool.and_false, Bool.and_false]), Bool.and_false])
    
    ·rw [h29]
     replace h29 := bne_false h29
     refine GL.guardT rfl ?_
     refine GL.move I0.mono (by conv => lhs; whnf) ?_
     refine GL.guardT rfl ?_
     refine GL.move I0.mono (by conv => lhs; whnf) ?_
     refine GL.guardT rfl ?_
     refine GL.indexAddrF I0.mono (sz := 1) rfl rfl rfl rfl (by omega) (by rw [em_len]; omega) (by intro e he; obtain ⟨a, -, rfl⟩ := List.mem_map.1 he; rfl) (by with_reducible exact Int.toNat_natCast _) ?_
     refine GL.guardT rfl ?_
     refine GL.loadF I0.mono rfl rfl (em_get (by omega)) rfl ?_
     refine GL.guardT rfl ?_
     refine GL.bin I0.mono rfl ?_
     refine GL.pick I0.mono rfl (by conv => lhs; whnf) ?_
     refine GL.doneF ?_
     refine goOn ?_
     refine Wp.condI rfl (fun h35 => ?_) (fun h35 => ?_)
     ·replace h35 := bne_true h35
      refine Wp.seqI ?_
      refine Wp.regI I0.mono ?_
      refine GL.assign I0.mono (by conv => lhs; whnf) ?_
      refine GL.doneF ?_
      refine goOn ?_
      refine Wp.retI ?_
      refine thenX.ret ?_
      refine blockX.ret ?_
      refine thenX.ret ?_
      refine thenX.ret ?_
      refine blockX.ret ?_
      refine thenX.ret ?_
      refine RetX.ret ?_
      refine ⟨_, _, _, _, .cons (.tmp rfl) .nil, .frz (.pure rfl), List.nodup_nil, by simp, ?_⟩
      show LV.bool _ = LV.bool _
      congr 1
      symm
      unfold travelOk
      first
      | (rw [decide_eq_false (by omega)]; rfl)
      | (rw [hA, rows_end (by omega), decide_eq_true (by omega)]; rfl)
      | (rw [hA, rows_no (by omega) (by rw [rowOk, decide_eq_false (by omega)]; rfl), Bool.and_false])
      | (rw [hA, rows_no (by omega) (by rw [rowOk, decide_eq_false h35, Bool.false_and, Bool.and_false]), Bool.and_false])
      | (rw [hA, rows_no (by omega) (by rw [rowOk, all_no (k := j) (by omega) (by simpa using h44), Bool.and_false, Bool.and_false]), Bool.and_false])
     
     ·replace h35 := bne_false h35
      refine Wp.skipI ?_
      refine goOn ?_
      refine Wp.seqI ?_
      refine Wp.regI I0.mono ?_
      refine GL.move I0.mono (by conv => lhs; whnf) ?_
      refine GL.lenF I0.mono rfl rfl (em_len _ _) ?_
      refine GL.move I0.mono (by conv => lhs; whnf) ?_
      refine GL.doneF ?_
      refine goOn ?_
      refine Wp.blockI ?_
      refine Wp.loopI I0.mono (α := Nat) (fun j st => (j ≤ (i.travel.getD k default).length ∧ ∀ y, y < j → between ((i.travel.getD k default).getD y default) 0 1000 = true) ∧ ∃ m0, st = ⟨(updS (updS (updS (updS (updS (updS (updS (fun _ => LV.undef) 3 (.int .i64 ((i.stops.length : Int) + 1))) 18 (.sl (em nr i.travel))) 19 (.int .i64 (i.travel.length : Int))) 20 (.int .i64 (k : Int))) 36 (.sl (em ni (i.travel.getD k default)))) 37 (.int .i64 ((i.travel.getD k default).length : Int))) 38 (.int .i64 (j : Int))), effM m0 []⟩) (fun j => (i.travel.getD k default).length - j) 0 ⟨_, (LessS.weak (LessS.upd (LessS.upd (LessS.upd (LessS.upd (LessS.upd (LessS.upd (LessS.upd (LessS.nil _) rfl) rfl) rfl) rfl) rfl) rfl) rfl) _), ⟨Nat.zero_le _, fun y h => by omega⟩, _, (congrArg (St.mk _) (effM_eq Has.nil).symm)⟩ ?_
      rintro j _ ⟨⟨hj, hB⟩, m0, rfl⟩
      have hrow := hs.row k
      refine Wp.seqI ?_
      refine Wp.regI I0.mono ?_
      refine GL.bin I0.mono rfl ?_
      refine GL.doneF ?_
      refine goOn ?_
      refine Wp.seqI ?_
      refine Wp.condI rfl (fun h39 => ?_) (fun h39 => ?_)
      ·replace h39 := of_decide_eq_true h39
       refine Wp.skipI ?_
       refine goOn ?_
       refine Wp.seqI ?_
       refine Wp.blockI ?_
       refine Wp.seqI ?_
       refine Wp.regI I0.mono ?_
       refine GL.indexAddrF I0.mono (sz := 1) rfl rfl rfl rfl (by omega) (by (rw [em_len]; omega)) (by intro e he; obtain ⟨a, -, rfl⟩ := List.mem_map.1 he; rfl) (by with_reducible exact Int.toNat_natCast _) ?_
       refine GL.loadF I0.mono rfl rfl (em_get (by omega)) rfl ?_
       refine GL.assign I0.mono (by conv => lhs; whnf) ?_
       refine GL.doneF ?_
       refine goOn ?_
       refine Wp.seqI ?_
       refine Wp.regI I0.mono ?_
       refine GL.move I0.mono (by conv => lhs; whnf) ?_
       refine GL.call0 I0.mono rfl (Frz.aggc (by exact Frz.pure rfl) (Frz.aggc (by exact Frz.pure rfl) (Frz.aggc (by exact Frz.pure rfl) (Frz.aggn)))) (iwithin_ok _ _ _) rfl rfl (fun _ => rfl) ?_
       refine GL.un I0.mono rfl ?_
       refine GL.doneF ?_
       refine goOn ?_
       refine Wp.condI rfl (fun h44 => ?_) (fun h44 => ?_)
       ·skip
        refine Wp.seqI ?_
        refine Wp.regI I0.mono ?_
        refine GL.assign I0.mono (by conv => lhs; whnf) ?_
        refine GL.doneF ?_
        refine goOn ?_
        refine Wp.retI ?_
        refine blockX.ret ?_
        refine thenX.ret ?_
        refine thenX.ret ?_
        refine blockX.ret ?_
        refine blockX.ret ?_
        refine thenX.ret ?_
        refine thenX.ret ?_
        refine blockX.ret ?_
        refine thenX.ret ?_
        refine RetX.ret ?_
        refine ⟨_, _, _, _, .cons (.tmp rfl) .nil, .frz (.pure rfl), List.nodup_nil, by simp, ?_⟩
        show LV.bool _ = LV.bool _
        congr 1
        symm
        unfold travelOk
        first
        | (rw [decide_eq_false (by omega)]; rfl)
        | (rw [hA, rows_end (by omega), decide_eq_true (by omega)]; rfl)
        | (rw [hA, rows_no (by omega) (by rw [rowOk, decide_eq_false (by omega)]; rfl), Bool.and_false])
        | (rw [hA, rows_no (by omega) (by rw [rowOk, decide_eq_false h35, Bool.false_and, Bool.and_false]), Bool.and_false])
        | (rw [hA, rows_no (by omega) (by rw [rowOk, all_no (k := j) (by omega) (by simpa using h44), Bool.and_false, Bool.and_false]), Bool.and_false])
       
       ·skip
        refine Wp.skipI ?_
        refine blockX.normal ?_
        refine goOn ?_
        refine Wp.regI I0.mono ?_
        refine GL.addR I0.mono rfl rfl (by omega) ?_
        refine GL.move I0.mono (by conv => lhs; whnf) ?_
        refine GL.doneF ?_
        refine ⟨j + 1, (by dsimp only; omega), _, (LessS.weak (LessS.upd (LessS.upd (LessS.upd (LessS.upd (LessS.upd (LessS.upd (LessS.upd (LessS.nil _) rfl) rfl) rfl) rfl) rfl) rfl) rfl) _), ⟨by omega, fun y h => by
              by_cases hy : y = j
              · subst hy; simpa using h44
              · exact hB y (by omega)⟩, _, (congrArg (St.mk _) (effM_eq Has.nil).symm)⟩
      ·replace h39 := of_decide_eq_false h39
       refine Wp.exitI ?_
       refine thenX.exit ?_
       refine thenX.exit ?_
       refine blockX.out ?_
       refine blockX.normal ?_
       refine goOn ?_
       refine Wp.regI I0.mono ?_
       refine GL.addR I0.mono rfl rfl (by omega) ?_
       refine GL.move I0.mono (by conv => lhs; whnf) ?_
       refine GL.doneF ?_
       refine ⟨k + 1, (by dsimp only; omega), _, (LessS.weak (LessS.upd (LessS.upd (LessS.upd (LessS.upd (LessS.nil _) rfl) rfl) rfl) rfl) _), ⟨by omega, by rw [hA, rows_go (by omega) (by rw [rowOk, decide_eq_true (by omega), decide_eq_true (by omega), all_yes fun y hy => hB y (by omega)]; rfl)]⟩, _, (congrArg (St.mk _) (effM_eq Has.nil).symm)⟩
   ·replace h21 := of_decide_eq_false h21
    refine Wp.exitI ?_
    refine thenX.exit ?_
    refine thenX.exit ?_
    refine blockX.out ?_
    refine goOn ?_
    refine Wp.seqI ?_
    refine Wp.regI I0.mono ?_
    refine GL.assign I0.mono (by conv => lhs; whnf) ?_
    refine GL.doneF ?_
    refine goOn ?_
    refine Wp.retI ?_
    refine RetX.ret ?_
    refine ⟨_, _, _, _, .cons (.tmp rfl) .nil, .frz (.pure rfl), List.nodup_nil, by simp, ?_⟩
    show LV.bool _ = LV.bool _
    congr 1
    symm
    unfold travelOk
    first
    | (rw [decide_eq_false (by omega)]; rfl)
    | (rw [hA, rows_end (by omega), decide_eq_true (by omega)]; rfl)
    | (rw [hA, rows_no (by omega) (by rw [rowOk, decide_eq_false (by omega)]; rfl), Bool.and_false])
    | (rw [hA, rows_no (by omega) (by rw [rowOk, decide_eq_false h35, Bool.false_and, Bool.and_false]), Bool.and_false])
    | (rw [hA, rows_no (by omega) (by rw [rowOk, all_no (k := j) (by omega) (by simpa using h44), Bool.and_false, Bool.and_false]), Bool.and_false])
   

theorem had1_no {n : Nat} {x : Int} {h : List Int} (e : between x 1 n = false ∨ x ∈ h) : had1 n x h = none := by
  unfold had1
  rw [if_neg]
  rintro ⟨h1, h2⟩
  rcases e with e | e
  · rw [e] at h1; cases h1
  · exact h2 e
theorem had1_yes {n : Nat} {x : Int} {h : List Int} (e : between x 1 n = true) (e2 : x ∉ h) : had1 n x h = some (addK h x) := by
  unfold had1
  rw [if_pos ⟨e, e2⟩]

set_option maxRecDepth 100000 in
set_option maxHeartbeats 4000000 in
theorem pairs_ok (i : Inst) (hs : i.Short) (hst : i.stops.all stopOk = true) : CallsV Try.prog 120 [ei i] (.bool (pairsGo i i.pairs [])) := by
  refine CallsR.intro (I0.sound _) mix Try.func120 rfl rfl (by simp [Try.f120]) (by kernel_rfl) (nb := 0) ?_
  unfold Try.f120
  refine Wp.seqI ?_
  have hp := hs.pairs
  have hsl := hs.stops
  unfold Short at hp hsl
  refine Wp.regI I0.mono ?_
  refine GL.box I0.mono (by conv => lhs; whnf) rfl (n := 4) rfl rfl ?_
  intro g1
  refine GL.assign I0.mono (by conv => lhs; whnf) ?_
  refine GL.doneF ?_
  refine goOn ?_
  refine Wp.seqI ?_
  refine Wp.regI I0.mono ?_
  refine GL.makeMap I0.mono ?_
  intro g9
  refine GL.assign I0.mono (by conv => lhs; whnf) ?_
  refine GL.doneF ?_
  refine goOn ?_
  refine Wp.seqI ?_
  refine Wp.seqI ?_
  refine Wp.regI I0.mono ?_
  refine GL.fieldAddr I0.mono (o := 2) rfl rfl rfl rfl (by conv => lhs; whnf) ?_
  refine GL.load I0.mono rfl rfl rfl rfl (by simp) rfl rfl ?_
  refine GL.lenF I0.mono rfl rfl (em_len _ _) ?_
  refine GL.move I0.mono (by conv => lhs; whnf) ?_
  refine GL.doneF ?_
  refine goOn ?_
  refine Wp.blockI ?_
  refine Wp.loopI I0.mono (α := Nat × Nat × List Int) (fun ⟨k, g, hd⟩ st => (k ≤ i.pairs.length ∧ pairsGo i i.pairs [] = pairsGo i (i.pairs.drop k) hd ∧ hd.length ≤ 2 * k) ∧ ∃ m0, st = ⟨(updS (updS (updS (updS (updS (fun _ => LV.undef) 1 (.ref 64 g1 0 0)) 3 (.mref 576 g)) 11 (.sl (em np i.pairs))) 12 (.int .i64 (i.pairs.length : Int))) 13 (.int .i64 (k : Int))), effM m0 [(64, ⟨g1, false, .var, 4, [ic i]⟩), (576, ⟨g, false, .mp, 2, em kb hd⟩)]⟩) (fun ⟨k, g, hd⟩ => i.pairs.length - k) ⟨0, _, []⟩ ⟨_, (LessS.weak (LessS.upd (LessS.upd (LessS.upd (LessS.upd (LessS.upd (LessS.nil _) rfl) rfl) rfl) rfl) rfl) _), ⟨Nat.zero_le _, rfl, Nat.zero_le _⟩, _, (congrArg (St.mk _) (effM_eq (Has.cons rfl (Has.cons rfl Has.nil))).symm)⟩ ?_
  rintro ⟨k, g, hd⟩ _ ⟨⟨hk, hA, hl⟩, m0, rfl⟩
  refine Wp.seqI ?_
  refine Wp.regI I0.mono ?_
  refine GL.bin I0.mono rfl ?_
  refine GL.doneF ?_
  refine goOn ?_
  refine Wp.seqI ?_
  refine Wp.condI rfl (fun h14 => ?_) (fun h14 => ?_)
  ·replace h14 := of_decide_eq_true h14
   refine Wp.skipI ?_
   refine goOn ?_
   refine Wp.seqI ?_
   refine Wp.blockI ?_
   refine Wp.seqI ?_
   refine Wp.regI I0.mono ?_
   refine GL.indexAddrF I0.mono (sz := 2) rfl rfl rfl rfl (by omega) (by (rw [em_len]; omega)) (by intro e he; obtain ⟨a, -, rfl⟩ := List.mem_map.1 he; rfl) (by with_reducible exact Int.toNat_natCast _) ?_
   refine GL.loadFW I0.mono (n := 2) rfl rfl (em_get (by omega)) rfl rfl ?_
   refine GL.alloc I0.mono (cs := [LV.int .i64 0, LV.int .i64 0]) rfl rfl ?_
   intro g5
   refine GL.storeW I0.mono (n := 2) rfl rfl rfl rfl rfl rfl rfl (by conv => lhs; whnf) rfl rfl rfl ?_
   refine GL.doneF ?_
   refine goOn ?_
   refine Wp.seqI ?_
   refine Wp.seqI ?_
   refine Wp.regI I0.mono ?_
   refine GL.indexAddrA I0.mono (sz := 1) (len := 2) rfl rfl rfl rfl rfl rfl (by decide) (by decide) (by conv => lhs; whnf) ?_
   refine GL.load I0.mono rfl rfl rfl rfl (by simp) rfl rfl ?_
   refine GL.indexAddrA I0.mono (sz := 1) (len := 2) rfl rfl rfl rfl rfl rfl (by decide) (by decide) (by conv => lhs; whnf) ?_
   refine GL.load I0.mono rfl rfl rfl rfl (by simp) rfl rfl ?_
   refine GL.bin I0.mono rfl ?_
   refine GL.doneF ?_
   refine goOn ?_
   refine Wp.condI rfl (fun h21 => ?_) (fun h21 => ?_)
   ·replace h21 := of_decide_eq_true h21
    refine Wp.seqI ?_
    refine Wp.regI I0.mono ?_
    refine GL.assign I0.mono (by conv => lhs; whnf) ?_
    refine GL.doneF ?_
    refine goOn ?_
    refine Wp.retI ?_
    refine thenX.ret ?_
    refine blockX.ret ?_
    refine thenX.ret ?_
    refine thenX.ret ?_
    refine blockX.ret ?_
    refine thenX.ret ?_
    refine RetX.ret ?_
    refine ⟨_, _, _, _, .cons (.tmp rfl) .nil, .frz (.pure rfl), List.nodup_nil, by simp, ?_⟩
    show LV.bool _ = LV.bool _
    congr 1
    rw [hA]
    symm
    first
    | (rw [pairs_no (by omega) (pair_same h21)])
    | (rw [pairs_no (by omega) (by rw [pair_had, hadK_none hj2 (by rw [hadK_step hj2 hH, had1_no (by simp_all)])]; rfl)])
    | (rw [pairs_no (by omega) (by rw [pair_had, hH2]; exact if_pos (by first | exact .inl h50 | exact .inr h62))])
    | (rw [pairs_end (by omega)])
   ·replace h21 := of_decide_eq_false h21
    refine Wp.skipI ?_
    refine goOn ?_
    refine Wp.seqI ?_
    refine Wp.seqI ?_
    refine Wp.regI I0.mono ?_
    refine GL.loadW I0.mono (n := 2) rfl rfl rfl rfl (by simp) rfl rfl rfl ?_
    refine GL.move I0.mono (by conv => lhs; whnf) ?_
    refine GL.doneF ?_
    refine goOn ?_
    refine Wp.blockI ?_
    refine Wp.loopI I0.mono (α := Nat × Nat × List Int) (fun ⟨j, g, hd'⟩ st => (j ≤ 2 ∧ hadK i.stops.length (i.pairs.getD k default) hd j = some hd') ∧ ∃ m0, st = ⟨(updS (updS (updS (updS (updS (updS (updS (updS (fun _ => LV.undef) 1 (.ref 64 g1 0 0)) 3 (.mref 576 g)) 5 (.ref 320 g5 0 0)) 11 (.sl (em np i.pairs))) 12 (.int .i64 (i.pairs.length : Int))) 13 (.int .i64 (k : Int))) 22 (.agg (np (i.pairs.getD k default)))) 23 (.int .i64 (j : Int))), effM m0 [(64, ⟨g1, false, .var, 4, [ic i]⟩), (576, ⟨g, false, .mp, 2, em kb hd'⟩), (320, ⟨g5, false, .var, 2, [np (i.pairs.getD k default)]⟩)]⟩) (fun ⟨j, g, hd'⟩ => 2 - j) ⟨0, _, _⟩ ⟨_, (LessS.weak (LessS.upd (LessS.upd (LessS.upd (LessS.upd (LessS.upd (LessS.upd (LessS.upd (LessS.upd (LessS.nil _) rfl) rfl) rfl) rfl) rfl) rfl) rfl) rfl) _), ⟨Nat.zero_le _, rfl⟩, _, (congrArg (St.mk _) (effM_eq (Has.cons rfl (Has.cons rfl (Has.cons rfl Has.nil)))).symm)⟩ ?_
    rintro ⟨j, g, hd'⟩ _ ⟨⟨hj, hH⟩, m0, rfl⟩
    refine Wp.seqI ?_
    refine Wp.regI I0.mono ?_
    refine GL.bin I0.mono rfl ?_
    refine GL.doneF ?_
    refine goOn ?_
    refine Wp.seqI ?_
    refine Wp.condI rfl (fun h24 => ?_) (fun h24 => ?_)
    ·replace h24 := of_decide_eq_true h24
     have hj2 : j < 2 := by omega
     refine Wp.skipI ?_
     refine goOn ?_
     refine Wp.seqI ?_
     refine Wp.blockI ?_
     refine Wp.seqI ?_
     refine Wp.regI I0.mono ?_
     refine GL.indexAr I0.mono (len := 2) (j := j) (v := .int .i64 (atK (i.pairs.getD k default) j)) rfl rfl rfl rfl rfl (by omega) (by omega) (by rfl) (by rcases (show j = 0 ∨ j = 1 by omega) with rfl | rfl <;> rfl) ?_
     refine GL.assign I0.mono (by conv => lhs; whnf) ?_
     refine GL.doneF ?_
     refine goOn ?_
     refine Wp.seqI ?_
     refine Wp.seqI ?_
     refine Wp.regI I0.mono ?_
     refine GL.move I0.mono (by conv => lhs; whnf) ?_
     refine GL.fieldAddr I0.mono (o := 1) rfl rfl rfl rfl (by conv => lhs; whnf) ?_
     refine GL.load I0.mono rfl rfl rfl rfl (by simp) rfl rfl ?_
     refine GL.lenF I0.mono rfl rfl (em_len _ _) ?_
     refine GL.call0 I0.mono rfl (Frz.aggc (by exact Frz.pure rfl) (Frz.aggc (by exact Frz.pure rfl) (Frz.aggc (by exact Frz.pure rfl) (Frz.aggn)))) (iwithin_ok _ _ _) rfl rfl (fun _ => rfl) ?_
     refine GL.un I0.mono rfl ?_
     refine GL.move I0.mono (by conv => lhs; whnf) ?_
     refine GL.splitAt 32 rfl (fun h32 => ?_) (fun h32 => ?_)
     ·rw [h32]
      skip
      refine GL.guardF rfl ?_
      refine GL.guardF rfl ?_
      refine GL.guardF rfl ?_
      refine GL.pick I0.mono rfl (by conv => lhs; whnf) ?_
      refine GL.doneF ?_
      refine goOn ?_
      refine Wp.condT rfl ?_
      refine Wp.seqI ?_
      refine Wp.regI I0.mono ?_
      refine GL.assign I0.mono (by conv => lhs; whnf) ?_
      refine GL.doneF ?_
      refine goOn ?_
      refine Wp.retI ?_
      refine thenX.ret ?_
      refine blockX.ret ?_
      refine thenX.ret ?_
      refine thenX.ret ?_
      refine blockX.ret ?_
      refine thenX.ret ?_
      refine blockX.ret ?_
      refine thenX.ret ?_
      refine thenX.ret ?_
      refine blockX.ret ?_
      refine thenX.ret ?_
      refine RetX.ret ?_
      refine ⟨_, _, _, _, .cons (.tmp rfl) .nil, .frz (.pure rfl), List.nodup_nil, by simp, ?_⟩
      show LV.bool _ = LV.bool _
      congr 1
      rw [hA]
      symm
      first
      | (rw [pairs_no (by omega) (pair_same h21)])
      | (rw [pairs_no (by omega) (by rw [pair_had, hadK_none hj2 (by rw [hadK_step hj2 hH, had1_no (by simp_all)])]; rfl)])
      | (rw [pairs_no (by omega) (by rw [pair_had, hH2]; exact if_pos (by first | exact .inl h50 | exact .inr h62))])
      | (rw [pairs_end (by omega)])
     ·rw [h32]
      skip
      refine GL.guardT rfl ?_
      refine GL.move I0.mono (by conv => lhs; whnf) ?_
      refine GL.guardT rfl ?_
      refine GL.move I0.mono (by conv => lhs; whnf) ?_
      refine GL.guardT rfl ?_
      refine GL.setLook I0.mono (l := hd') rfl rfl rfl rfl rfl rfl rfl rfl rfl rfl ?_
      refine GL.pick I0.mono rfl (by conv => lhs; whnf) ?_
      refine GL.doneF ?_
      refine goOn ?_
      refine Wp.condI rfl (fun h36 => ?_) (fun h36 => ?_)
      ·replace h36 := of_decide_eq_true h36
       refine Wp.seqI ?_
       refine Wp.regI I0.mono ?_
       refine GL.assign I0.mono (by conv => lhs; whnf) ?_
       refine GL.doneF ?_
       refine goOn ?_
       refine Wp.retI ?_
       refine thenX.ret ?_
       refine blockX.ret ?_
       refine thenX.ret ?_
       refine thenX.ret ?_
       refine blockX.ret ?_
       refine thenX.ret ?_
       refine blockX.ret ?_
       refine thenX.ret ?_
       refine thenX.ret ?_
       refine blockX.ret ?_
       refine thenX.ret ?_
       refine RetX.ret ?_
       refine ⟨_, _, _, _, .cons (.tmp rfl) .nil, .frz (.pure rfl), List.nodup_nil, by simp, ?_⟩
       show LV.bool _ = LV.bool _
       congr 1
       rw [hA]
       symm
       first
       | (rw [pairs_no (by omega) (pair_same h21)])
       | (rw [pairs_no (by omega) (by rw [pair_had, hadK_none hj2 (by rw [hadK_step hj2 hH, had1_no (by simp_all)])]; rfl)])
       | (rw [pairs_no (by omega) (by rw [pair_had, hH2]; exact if_pos (by first | exact .inl h50 | exact .inr h62))])
       | (rw [pairs_end (by omega)])
      ·replace h36 := of_decide_eq_false h36
       refine Wp.skipI ?_
       refine goOn ?_
       refine Wp.regI I0.mono ?_
       refine GL.move I0.mono (by conv => lhs; whnf) ?_
       refine GL.move I0.mono (by conv => lhs; whnf) ?_
       refine GL.setPut I0.mono (l := hd') rfl rfl rfl rfl rfl rfl rfl rfl rfl rfl rfl ?_
       refine GL.doneF ?_
       refine blockX.normal ?_
       refine goOn ?_
       refine Wp.regI I0.mono ?_
       refine GL.addR I0.mono rfl rfl (by omega) ?_
       refine GL.move I0.mono (by conv => lhs; whnf) ?_
       refine GL.doneF ?_
       refine ⟨⟨j + 1, _, _⟩, (by dsimp only; omega), _, (LessS.weak (LessS.upd (LessS.upd (LessS.upd (LessS.upd (LessS.upd (LessS.upd (LessS.upd (LessS.upd (LessS.nil _) rfl) rfl) rfl) rfl) rfl) rfl) rfl) rfl) _), ⟨by omega, by rw [hadK_step hj2 hH, had1_yes (by simp_all) (by simp_all)]⟩, _, (congrArg (St.mk _) (effM_eq (Has.cons rfl (Has.cons rfl (Has.cons rfl Has.nil)))).symm)⟩
    ·replace h24 := of_decide_eq_false h24
     obtain rfl : j = 2 := by omega
     have hH2 := hH
     obtain ⟨⟨i1, i2⟩, ⟨i3, i4⟩, i5⟩ := hadK_in hH
     have q0 := all_getD (l := i.stops) (k := ((i.pairs.getD k default).p0 - 1).toNat) (by omega) hst
     have q2 := (between_iff.1 (Bool.and_eq_true_iff.1 q0).1)
     refine Wp.exitI ?_
     refine thenX.exit ?_
     refine thenX.exit ?_
     refine blockX.out ?_
     refine goOn ?_
     refine Wp.seqI ?_
     refine Wp.regI I0.mono ?_
     refine GL.fieldAddr I0.mono (o := 1) rfl rfl rfl rfl (by conv => lhs; whnf) ?_
     refine GL.load I0.mono rfl rfl rfl rfl (by simp) rfl rfl ?_
     refine GL.indexAddrA I0.mono (sz := 1) (len := 2) rfl rfl rfl rfl rfl rfl (by decide) (by decide) (by conv => lhs; whnf) ?_
     refine GL.load I0.mono rfl rfl rfl rfl (by simp) rfl rfl ?_
     refine GL.subR I0.mono rfl rfl (by omega) ?_
     refine GL.indexAddrF I0.mono (sz := 4) (j := ((i.pairs.getD k default).p0 - 1).toNat) rfl rfl rfl rfl (by omega) (by rw [em_len]; omega) (by intro e he; obtain ⟨a, -, rfl⟩ := List.mem_map.1 he; rfl) rfl ?_
     refine GL.fieldAddrF I0.mono (o := 0) rfl rfl (by conv => lhs; whnf) ?_
     refine GL.loadF I0.mono rfl rfl (em_get (by omega)) rfl ?_
     refine GL.assign I0.mono (by conv => lhs; whnf) ?_
     refine GL.doneF ?_
     refine goOn ?_
     refine Wp.seqI ?_
     refine Wp.regI I0.mono ?_
     refine GL.move I0.mono (by conv => lhs; whnf) ?_
     refine GL.bin I0.mono rfl ?_
     refine GL.move I0.mono (by conv => lhs; whnf) ?_
     refine GL.splitAt 50 rfl (fun h50 => ?_) (fun h50 => ?_)
     ·rw [h50]
      replace h50 := of_decide_eq_true h50
      refine GL.guardF rfl ?_
      refine GL.guardF rfl ?_
      refine GL.guardF rfl ?_
      refine GL.guardF rfl ?_
      refine GL.guardF rfl ?_
      refine GL.guardF rfl ?_
      refine GL.guardF rfl ?_
      refine GL.guardF rfl ?_
      refine GL.guardF rfl ?_
      refine GL.guardF rfl ?_
      refine GL.guardF rfl ?_
      refine GL.pick I0.mono rfl (by conv => lhs; whnf) ?_
      refine GL.doneF ?_
      refine goOn ?_
      refine Wp.condT rfl ?_
      refine Wp.seqI ?_
      refine Wp.regI I0.mono ?_
      refine GL.assign I0.mono (by conv => lhs; whnf) ?_
      refine GL.doneF ?_
      refine goOn ?_
      refine Wp.retI ?_
      refine blockX.ret ?_
      refine thenX.ret ?_
      refine thenX.ret ?_
      refine blockX.ret ?_
      refine thenX.ret ?_
      refine RetX.ret ?_
      refine ⟨_, _, _, _, .cons (.tmp rfl) .nil, .frz (.pure rfl), List.nodup_nil, by simp, ?_⟩
      show LV.bool _ = LV.bool _
      congr 1
      rw [hA]
      symm
      first
      | (rw [pairs_no (by omega) (pair_same h21)])
      | (rw [pairs_no (by omega) (by rw [pair_had, hadK_none hj2 (by rw [hadK_step hj2 hH, had1_no (by simp_all)])]; rfl)])
      | (rw [pairs_no (by omega) (by rw [pair_had, hH2]; exact if_pos (by exact .inl h50))])
      | (rw [pairs_end (by omega)])
     ·rw [h50]
      replace h50 := of_decide_eq_false h50
      refine GL.guardT rfl ?_
      refine GL.fieldAddr I0.mono (o := 1) rfl rfl rfl rfl (by conv => lhs; whnf) ?_
      refine GL.guardT rfl ?_
      refine GL.load I0.mono rfl rfl rfl rfl (by simp) rfl rfl ?_
      refine GL.guardT rfl ?_
      refine GL.indexAddrA I0.mono (sz := 1) (len := 2) rfl rfl rfl rfl rfl rfl (by decide) (by decide) (by conv => lhs; whnf) ?_
      refine GL.guardT rfl ?_
      refine GL.load I0.mono rfl rfl rfl rfl (by simp) rfl rfl ?_
      refine GL.guardT rfl ?_
      refine GL.subR I0.mono rfl rfl (by omega) ?_
      refine GL.guardT rfl ?_
      refine GL.indexAddrF I0.mono (sz := 4) (j := ((i.pairs.getD k default).p1 - 1).toNat) rfl rfl rfl rfl (by omega) (by rw [em_len]; omega) (by intro e he; obtain ⟨a, -, rfl⟩ := List.mem_map.1 he; rfl) rfl ?_
      refine GL.guardT rfl ?_
      refine GL.fieldAddrF I0.mono (o := 0) rfl rfl (by conv => lhs; whnf) ?_
      refine GL.guardT rfl ?_
      refine GL.loadF I0.mono rfl rfl (em_get (by omega)) rfl ?_
      refine GL.guardT rfl ?_
      refine GL.move I0.mono (by conv => lhs; whnf) ?_
      refine GL.guardT rfl ?_
      refine GL.negR I0.mono rfl (by omega) ?_
      refine GL.guardT rfl ?_
      refine GL.bin I0.mono rfl ?_
      refine GL.pick I0.mono rfl (by conv => lhs; whnf) ?_
      refine GL.doneF ?_
      refine goOn ?_
      refine Wp.condI rfl (fun h62 => ?_) (fun h62 => ?_)
      ·replace h62 := bne_true h62
       refine Wp.seqI ?_
       refine Wp.regI I0.mono ?_
       refine GL.assign I0.mono (by conv => lhs; whnf) ?_
       refine GL.doneF ?_
       refine goOn ?_
       refine Wp.retI ?_
       refine blockX.ret ?_
       refine thenX.ret ?_
       refine thenX.ret ?_
       refine blockX.ret ?_
       refine thenX.ret ?_
       refine RetX.ret ?_
       refine ⟨_, _, _, _, .cons (.tmp rfl) .nil, .frz (.pure rfl), List.nodup_nil, by simp, ?_⟩
       show LV.bool _ = LV.bool _
       congr 1
       rw [hA]
       symm
       first
       | (rw [pairs_no (by omega) (pair_same h21)])
       | (rw [pairs_no (by omega) (by rw [pair_had, hadK_none hj2 (by rw [hadK_step hj2 hH, had1_no (by simp_all)])]; rfl)])
       | (rw [pairs_no (by omega) (by rw [pair_had, hH2]; exact if_pos (by exact .inr h62))])
       | (rw [pairs_end (by omega)])
      ·replace h62 := bne_false h62
       refine Wp.skipI ?_
       refine blockX.normal ?_
       refine goOn ?_
       refine Wp.regI I0.mono ?_
       refine GL.addR I0.mono rfl rfl (by omega) ?_
       refine GL.move I0.mono (by conv => lhs; whnf) ?_
       refine GL.doneF ?_
       refine ⟨⟨k + 1, _, _⟩, (by dsimp only; omega), _, (LessS.weak (LessS.upd (LessS.upd (LessS.upd (LessS.upd (LessS.upd (LessS.nil _) rfl) rfl) rfl) rfl) rfl) _), ⟨by omega, by rw [hA, pairs_go (by omega) (by rw [pair_had, hH2]; exact if_neg (by rintro (h | h) <;> first | exact h50 h | exact h h62 | exact h62 h))], by omega⟩, _, (congrArg (St.mk _) (effM_eq (Has.cons rfl (Has.cons rfl Has.nil))).symm)⟩
  ·replace h14 := of_decide_eq_false h14
   refine Wp.exitI ?_
   refine thenX.exit ?_
   refine thenX.exit ?_
   refine blockX.out ?_
   refine goOn ?_
   refine Wp.seqI ?_
   refine Wp.regI I0.mono ?_
   refine GL.assign I0.mono (by conv => lhs; whnf) ?_
   refine GL.doneF ?_
   refine goOn ?_
   refine Wp.retI ?_
   refine RetX.ret ?_
   refine ⟨_, _, _, _, .cons (.tmp rfl) .nil, .frz (.pure rfl), List.nodup_nil, by simp, ?_⟩
   show LV.bool _ = LV.bool _
   congr 1
   rw [hA]
   symm
   first
   | (rw [pairs_no (by omega) (pair_same h21)])
   | (rw [pairs_no (by omega) (by rw [pair_had, hadK_none hj2 (by rw [hadK_step hj2 hH, had1_no (by simp_all)])]; rfl)])
   | (rw [pairs_no (by omega) (by rw [pair_had, hH2]; exact if_pos (by first | exact .inl h50 | exact .inr h62))])
   | (rw [pairs_end (by omega)])

end Go.Proofs.Ytffnlhjdlhpmjaa
