/- The small functions of the reference, and the numbers of a law, walked. -/
import Derived.Test.YtpepcfombibpeaaFb
import Derived.Test.YtpepcfombibpeaaMvC
import Derived.KernelRfl
set_option linter.unusedVariables false
set_option linter.unusedSimpArgs false
namespace Go.Proofs.Ytpepcfombibpeaa
open Go.Proofs Mv

def between (a b c : Int) : Bool := decide (b ≤ a) && decide (a ≤ c)

set_option maxRecDepth 100000 in
set_option maxHeartbeats 4000000 in
theorem between_ok (a b c : Int) : CallsV Try.prog 68 [.int .i64 a, .int .i64 b, .int .i64 c] (.bool (between a b c)) := by
  refine CallsR.intro (I0.sound _) mix Try.func68 rfl rfl (by simp [Try.f68]) (by kernel_rfl) (nb := 0) ?_
  unfold Try.f68
  refine Wp.seqI ?_
  refine Wp.regI I0.mono ?_
  refine GL.assign I0.mono (by conv => lhs; whnf) ?_
  refine GL.doneF ?_
  refine goOn ?_
  refine Wp.seqI ?_
  refine Wp.regI I0.mono ?_
  refine GL.move I0.mono (by conv => lhs; whnf) ?_
  refine GL.move I0.mono (by conv => lhs; whnf) ?_
  refine GL.bin I0.mono rfl ?_
  refine GL.move I0.mono (by conv => lhs; whnf) ?_
  refine GL.splitAt 10 rfl (fun h10 => ?_) (fun h10 => ?_)
  ·rw [h10]
   replace h10 := of_decide_eq_true h10
   refine GL.guardT rfl ?_
   refine GL.move I0.mono (by conv => lhs; whnf) ?_
   refine GL.guardT rfl ?_
   refine GL.move I0.mono (by conv => lhs; whnf) ?_
   refine GL.guardT rfl ?_
   refine GL.bin I0.mono rfl ?_
   refine GL.pick I0.mono rfl (by conv => lhs; whnf) ?_
   refine GL.assign I0.mono (by conv => lhs; whnf) ?_
   refine GL.doneF ?_
   refine goOn ?_
   refine Wp.retI ?_
   refine RetX.ret ?_
   refine ⟨_, _, _, _, .cons (.tmp rfl) .nil, .frz (.pure rfl), List.nodup_nil, by simp, ?_⟩
   show LV.bool _ = LV.bool _
   congr 1
   simp only [between, ge_iff_le] at *
   (simp [*]; done)
  ·rw [h10]
   replace h10 := of_decide_eq_false h10
   refine GL.guardF rfl ?_
   refine GL.guardF rfl ?_
   refine GL.guardF rfl ?_
   refine GL.pick I0.mono rfl (by conv => lhs; whnf) ?_
   refine GL.assign I0.mono (by conv => lhs; whnf) ?_
   refine GL.doneF ?_
   refine goOn ?_
   refine Wp.retI ?_
   refine RetX.ret ?_
   refine ⟨_, _, _, _, .cons (.tmp rfl) .nil, .frz (.pure rfl), List.nodup_nil, by simp, ?_⟩
   show LV.bool _ = LV.bool _
   congr 1
   simp only [between, ge_iff_le] at *
   (simp [*]; done)

set_option maxRecDepth 100000 in
set_option maxHeartbeats 4000000 in
theorem rcar_ok (i : Inst) (hs : i.Short) (n : Int) : CallsV Try.prog 67 [ei i, .int .i64 n] (.bool (between n 0 ((i.cars.length : Int) - 1))) := by
  refine CallsR.intro (I0.sound _) mix Try.func67 rfl rfl (by simp [Try.f67]) (by kernel_rfl) (nb := 0) ?_
  unfold Try.f67
  refine Wp.seqI ?_
  refine Wp.regI I0.mono ?_
  refine GL.box I0.mono (by conv => lhs; whnf) rfl (n := 4) rfl rfl ?_
  intro g2
  refine GL.assign I0.mono (by conv => lhs; whnf) ?_
  refine GL.doneF ?_
  refine goOn ?_
  refine Wp.seqI ?_
  refine Wp.regI I0.mono ?_
  refine GL.move I0.mono (by conv => lhs; whnf) ?_
  refine GL.fieldAddr I0.mono (o := 0) rfl rfl rfl rfl (by conv => lhs; whnf) ?_
  refine GL.load I0.mono rfl rfl rfl rfl (by simp) rfl rfl ?_
  refine GL.lenF I0.mono rfl rfl (em_len _ _) ?_
  have hc := hs.cars
  unfold Short at hc
  refine GL.subR I0.mono rfl rfl (by omega) ?_
  refine GL.call0 I0.mono rfl (Frz.aggc (by exact Frz.pure rfl) (Frz.aggc (by exact Frz.pure rfl) (Frz.aggc (by exact Frz.pure rfl) (Frz.aggn)))) (between_ok _ _ _) rfl rfl (fun _ => rfl) ?_
  refine GL.assign I0.mono (by conv => lhs; whnf) ?_
  refine GL.doneF ?_
  refine goOn ?_
  refine Wp.retI ?_
  refine RetX.ret ?_
  refine ⟨_, _, _, _, .cons (.tmp rfl) .nil, .frz (.pure rfl), List.nodup_nil, by simp, ?_⟩
  rfl

set_option maxRecDepth 100000 in
set_option maxHeartbeats 4000000 in
theorem rmate_ok (i : Inst) (hs : i.Short) (n : Int) : CallsV Try.prog 65 [ei i, .int .i64 n] (.int .i64 (mate i.pairs n)) := by
  refine CallsR.intro (I0.sound _) mix Try.func65 rfl rfl (by simp [Try.f65]) (by kernel_rfl) (nb := 0) ?_
  unfold Try.f65
  refine Wp.seqI ?_
  refine Wp.regI I0.mono ?_
  refine GL.box I0.mono (by conv => lhs; whnf) rfl (n := 4) rfl rfl ?_
  intro g2
  refine GL.assign I0.mono (by conv => lhs; whnf) ?_
  refine GL.doneF ?_
  refine goOn ?_
  refine Wp.seqI ?_
  refine Wp.seqI ?_
  refine Wp.regI I0.mono ?_
  refine GL.fieldAddr I0.mono (o := 2) rfl rfl rfl rfl (by conv => lhs; whnf) ?_
  refine GL.load I0.mono rfl rfl rfl rfl (by simp) rfl rfl ?_
  refine GL.lenF I0.mono rfl rfl (em_len _ _) ?_
  refine GL.move I0.mono (by conv => lhs; whnf) ?_
  refine GL.doneF ?_
  refine goOn ?_
  refine Wp.blockI ?_
  refine Wp.loopI I0.mono (α := Nat) (fun k st => (k ≤ i.pairs.length ∧ mate i.pairs n = mate (i.pairs.drop k) n) ∧ ∃ m0, st = ⟨(updS (updS (updS (updS (fun _ => LV.undef) 8 (.sl (em np i.pairs))) 9 (.int .i64 (i.pairs.length : Int))) 10 (.int .i64 (k : Int))) 1 (.int .i64 n)), effM m0 []⟩) (fun k => i.pairs.length - k) 0 ⟨_, (LessS.weak (LessS.upd (LessS.upd (LessS.upd (LessS.upd (LessS.nil _) rfl) rfl) rfl) rfl) _), ⟨by omega, by simp⟩, _, (congrArg (St.mk _) (effM_eq Has.nil).symm)⟩ ?_
  rintro k _ ⟨⟨hi, hA⟩, m0, rfl⟩
  have hsp := hs.pairs
  unfold Short at hsp
  refine Wp.seqI ?_
  refine Wp.regI I0.mono ?_
  refine GL.bin I0.mono rfl ?_
  refine GL.doneF ?_
  refine goOn ?_
  refine Wp.seqI ?_
  refine Wp.condI rfl (fun h11 => ?_) (fun h11 => ?_)
  ·replace h11 := of_decide_eq_true h11
   refine Wp.skipI ?_
   refine goOn ?_
   refine Wp.seqI ?_
   refine Wp.blockI ?_
   refine Wp.seqI ?_
   refine Wp.regI I0.mono ?_
   refine GL.indexAddrF I0.mono (sz := 2) rfl rfl rfl rfl (by omega) (by (rw [em_len]; omega)) (by intro e he; obtain ⟨a, -, rfl⟩ := List.mem_map.1 he; rfl) (by with_reducible exact Int.toNat_natCast _) ?_
   refine GL.loadFW I0.mono (n := 2) rfl rfl (em_get (by omega)) rfl rfl ?_
   refine GL.alloc I0.mono (cs := [LV.int .i64 0, LV.int .i64 0]) rfl rfl ?_
   intro g6
   refine GL.storeW I0.mono (n := 2) rfl rfl rfl rfl rfl rfl rfl (by conv => lhs; whnf) rfl rfl rfl ?_
   refine GL.doneF ?_
   refine goOn ?_
   refine Wp.seqI ?_
   refine Wp.seqI ?_
   refine Wp.regI I0.mono ?_
   refine GL.indexAddrA I0.mono (sz := 1) (len := 2) rfl rfl rfl rfl rfl rfl (by decide) (by decide) (by conv => lhs; whnf) ?_
   refine GL.load I0.mono rfl rfl rfl rfl (by simp) rfl rfl ?_
   refine GL.move I0.mono (by conv => lhs; whnf) ?_
   refine GL.bin I0.mono rfl ?_
   refine GL.doneF ?_
   refine goOn ?_
   refine Wp.condI rfl (fun h17 => ?_) (fun h17 => ?_)
   ·replace h17 := of_decide_eq_true h17
    refine Wp.seqI ?_
    refine Wp.regI I0.mono ?_
    refine GL.indexAddrA I0.mono (sz := 1) (len := 2) rfl rfl rfl rfl rfl rfl (by decide) (by decide) (by conv => lhs; whnf) ?_
    refine GL.load I0.mono rfl rfl rfl rfl (by simp) rfl rfl ?_
    refine GL.assign I0.mono (by conv => lhs; whnf) ?_
    refine GL.doneF ?_
    refine goOn ?_
    refine Wp.retI ?_
    refine thenX.ret ?_
    refine blockX.ret ?_
    refine thenX.ret ?_
    refine thenX.ret ?_
    refine blockX.ret ?_
    refine thenX.ret ?_
    refine RetX.ret ?_
    refine ⟨_, _, _, _, .cons (.tmp rfl) .nil, .frz (.pure rfl), List.nodup_nil, by simp, ?_⟩
    show LV.int _ _ = LV.int _ _
    congr 1
    rw [hA]
    (rw [drop_getD (by omega), mate, if_pos (Eq.symm (by simpa using h17))]; done)
   ·replace h17 := of_decide_eq_false h17
    refine Wp.skipI ?_
    refine goOn ?_
    refine Wp.seqI ?_
    refine Wp.regI I0.mono ?_
    refine GL.indexAddrA I0.mono (sz := 1) (len := 2) rfl rfl rfl rfl rfl rfl (by decide) (by decide) (by conv => lhs; whnf) ?_
    refine GL.load I0.mono rfl rfl rfl rfl (by simp) rfl rfl ?_
    refine GL.move I0.mono (by conv => lhs; whnf) ?_
    refine GL.bin I0.mono rfl ?_
    refine GL.doneF ?_
    refine goOn ?_
    refine Wp.condI rfl (fun h23 => ?_) (fun h23 => ?_)
    ·replace h23 := of_decide_eq_true h23
     refine Wp.seqI ?_
     refine Wp.regI I0.mono ?_
     refine GL.indexAddrA I0.mono (sz := 1) (len := 2) rfl rfl rfl rfl rfl rfl (by decide) (by decide) (by conv => lhs; whnf) ?_
     refine GL.load I0.mono rfl rfl rfl rfl (by simp) rfl rfl ?_
     refine GL.assign I0.mono (by conv => lhs; whnf) ?_
     refine GL.doneF ?_
     refine goOn ?_
     refine Wp.retI ?_
     refine blockX.ret ?_
     refine thenX.ret ?_
     refine thenX.ret ?_
     refine blockX.ret ?_
     refine thenX.ret ?_
     refine RetX.ret ?_
     refine ⟨_, _, _, _, .cons (.tmp rfl) .nil, .frz (.pure rfl), List.nodup_nil, by simp, ?_⟩
     show LV.int _ _ = LV.int _ _
     congr 1
     rw [hA]
     (rw [drop_getD (by omega), mate, if_neg (fun h => h17 h.symm), if_pos (Eq.symm (by simpa using h23))]; done)
    ·replace h23 := of_decide_eq_false h23
     refine Wp.skipI ?_
     refine blockX.normal ?_
     refine goOn ?_
     refine Wp.regI I0.mono ?_
     refine GL.addR I0.mono rfl rfl (by omega) ?_
     refine GL.move I0.mono (by conv => lhs; whnf) ?_
     refine GL.doneF ?_
     refine ⟨k + 1, (by dsimp only; omega), _, (LessS.weak (LessS.upd (LessS.upd (LessS.upd (LessS.upd (LessS.nil _) rfl) rfl) rfl) rfl) _), ⟨by omega, by rw [hA, drop_getD (by omega), mate, if_neg (fun h => h17 h.symm), if_neg (fun h => h23 h.symm)]⟩, _, (congrArg (St.mk _) (effM_eq Has.nil).symm)⟩
  ·replace h11 := of_decide_eq_false h11
   refine Wp.exitI ?_
   refine thenX.exit ?_
   refine thenX.exit ?_
   refine blockX.out ?_
   refine goOn ?_
   refine Wp.seqI ?_
   refine Wp.regI I0.mono ?_
   refine GL.assign I0.mono (by conv => lhs; whnf) ?_
   refine GL.doneF ?_
   refine goOn ?_
   refine Wp.retI ?_
   refine RetX.ret ?_
   refine ⟨_, _, _, _, .cons (.tmp rfl) .nil, .frz (.pure rfl), List.nodup_nil, by simp, ?_⟩
   show LV.int _ _ = LV.int _ _
   congr 1
   rw [hA]
   (rw [drop_all (by omega)]; rfl)

set_option maxRecDepth 100000 in
set_option maxHeartbeats 4000000 in
theorem rfirst_ok (i : Inst) (hs : i.Short) (n : Int) : CallsV Try.prog 66 [ei i, .int .i64 n] (.bool (first i.pairs n)) := by
  refine CallsR.intro (I0.sound _) mix Try.func66 rfl rfl (by simp [Try.f66]) (by kernel_rfl) (nb := 0) ?_
  unfold Try.f66
  refine Wp.seqI ?_
  refine Wp.regI I0.mono ?_
  refine GL.box I0.mono (by conv => lhs; whnf) rfl (n := 4) rfl rfl ?_
  intro g2
  refine GL.assign I0.mono (by conv => lhs; whnf) ?_
  refine GL.doneF ?_
  refine goOn ?_
  refine Wp.seqI ?_
  refine Wp.seqI ?_
  refine Wp.regI I0.mono ?_
  refine GL.fieldAddr I0.mono (o := 2) rfl rfl rfl rfl (by conv => lhs; whnf) ?_
  refine GL.load I0.mono rfl rfl rfl rfl (by simp) rfl rfl ?_
  refine GL.lenF I0.mono rfl rfl (em_len _ _) ?_
  refine GL.move I0.mono (by conv => lhs; whnf) ?_
  refine GL.doneF ?_
  refine goOn ?_
  refine Wp.blockI ?_
  refine Wp.loopI I0.mono (α := Nat) (fun k st => (k ≤ i.pairs.length ∧ first i.pairs n = first (i.pairs.drop k) n) ∧ ∃ m0, st = ⟨(updS (updS (updS (updS (fun _ => LV.undef) 8 (.sl (em np i.pairs))) 9 (.int .i64 (i.pairs.length : Int))) 10 (.int .i64 (k : Int))) 1 (.int .i64 n)), effM m0 []⟩) (fun k => i.pairs.length - k) 0 ⟨_, (LessS.weak (LessS.upd (LessS.upd (LessS.upd (LessS.upd (LessS.nil _) rfl) rfl) rfl) rfl) _), ⟨by omega, by simp⟩, _, (congrArg (St.mk _) (effM_eq Has.nil).symm)⟩ ?_
  rintro k _ ⟨⟨hi, hA⟩, m0, rfl⟩
  have hsp := hs.pairs
  unfold Short at hsp
  refine Wp.seqI ?_
  refine Wp.regI I0.mono ?_
  refine GL.bin I0.mono rfl ?_
  refine GL.doneF ?_
  refine goOn ?_
  refine Wp.seqI ?_
  refine Wp.condI rfl (fun h11 => ?_) (fun h11 => ?_)
  ·replace h11 := of_decide_eq_true h11
   refine Wp.skipI ?_
   refine goOn ?_
   refine Wp.seqI ?_
   refine Wp.blockI ?_
   refine Wp.seqI ?_
   refine Wp.regI I0.mono ?_
   refine GL.indexAddrF I0.mono (sz := 2) rfl rfl rfl rfl (by omega) (by (rw [em_len]; omega)) (by intro e he; obtain ⟨a, -, rfl⟩ := List.mem_map.1 he; rfl) (by with_reducible exact Int.toNat_natCast _) ?_
   refine GL.loadFW I0.mono (n := 2) rfl rfl (em_get (by omega)) rfl rfl ?_
   refine GL.alloc I0.mono (cs := [LV.int .i64 0, LV.int .i64 0]) rfl rfl ?_
   intro g6
   refine GL.storeW I0.mono (n := 2) rfl rfl rfl rfl rfl rfl rfl (by conv => lhs; whnf) rfl rfl rfl ?_
   refine GL.doneF ?_
   refine goOn ?_
   refine Wp.seqI ?_
   refine Wp.regI I0.mono ?_
   refine GL.indexAddrA I0.mono (sz := 1) (len := 2) rfl rfl rfl rfl rfl rfl (by decide) (by decide) (by conv => lhs; whnf) ?_
   refine GL.load I0.mono rfl rfl rfl rfl (by simp) rfl rfl ?_
   refine GL.move I0.mono (by conv => lhs; whnf) ?_
   refine GL.bin I0.mono rfl ?_
   refine GL.doneF ?_
   refine goOn ?_
   refine Wp.condI rfl (fun h17 => ?_) (fun h17 => ?_)
   ·replace h17 := of_decide_eq_true h17
    refine Wp.seqI ?_
    refine Wp.regI I0.mono ?_
    refine GL.assign I0.mono (by conv => lhs; whnf) ?_
    refine GL.doneF ?_
    refine goOn ?_
    refine Wp.retI ?_
    refine blockX.ret ?_
    refine thenX.ret ?_
    refine thenX.ret ?_
    refine blockX.ret ?_
    refine thenX.ret ?_
    refine RetX.ret ?_
    refine ⟨_, _, _, _, .cons (.tmp rfl) .nil, .frz (.pure rfl), List.nodup_nil, by simp, ?_⟩
    show LV.bool _ = LV.bool _
    congr 1
    rw [hA]
    (rw [drop_getD (by omega), first, if_pos (by simpa using h17)]; done)
   ·replace h17 := of_decide_eq_false h17
    refine Wp.skipI ?_
    refine blockX.normal ?_
    refine goOn ?_
    refine Wp.regI I0.mono ?_
    refine GL.addR I0.mono rfl rfl (by omega) ?_
    refine GL.move I0.mono (by conv => lhs; whnf) ?_
    refine GL.doneF ?_
    refine ⟨k + 1, (by dsimp only; omega), _, (LessS.weak (LessS.upd (LessS.upd (LessS.upd (LessS.upd (LessS.nil _) rfl) rfl) rfl) rfl) _), ⟨by omega, by rw [hA, drop_getD (by omega), first, if_neg (by simpa using h17)]⟩, _, (congrArg (St.mk _) (effM_eq Has.nil).symm)⟩
  ·replace h11 := of_decide_eq_false h11
   refine Wp.exitI ?_
   refine thenX.exit ?_
   refine thenX.exit ?_
   refine blockX.out ?_
   refine goOn ?_
   refine Wp.seqI ?_
   refine Wp.regI I0.mono ?_
   refine GL.assign I0.mono (by conv => lhs; whnf) ?_
   refine GL.doneF ?_
   refine goOn ?_
   refine Wp.retI ?_
   refine RetX.ret ?_
   refine ⟨_, _, _, _, .cons (.tmp rfl) .nil, .frz (.pure rfl), List.nodup_nil, by simp, ?_⟩
   show LV.bool _ = LV.bool _
   congr 1
   rw [hA]
   (rw [drop_all (by omega)]; rfl)

set_option maxRecDepth 100000 in
set_option maxHeartbeats 4000000 in
theorem tsame_ok (t u : Trip) (h0 : Short t.t0) (h1 : Short t.t1) (g0 : Short u.t0) (g1 : Short u.t1) : CallsV Try.prog 31 [.agg (nt t), .agg (nt u)] (.bool (decide (t = u))) := by
  refine CallsR.intro (I0.sound _) mix Try.func31 rfl rfl (by simp [Try.f31]) (by kernel_rfl) (nb := 0) ?_
  unfold Try.f31
  refine Wp.seqI ?_
  refine Wp.regI I0.mono ?_
  refine GL.box I0.mono (by conv => lhs; whnf) rfl (n := 4) rfl rfl ?_
  intro g2
  refine GL.box I0.mono (by conv => lhs; whnf) rfl (n := 4) rfl rfl ?_
  intro g3
  refine GL.assign I0.mono (by conv => lhs; whnf) ?_
  refine GL.doneF ?_
  refine goOn ?_
  refine Wp.seqI ?_
  refine Wp.regI I0.mono ?_
  refine GL.fieldAddr I0.mono (o := 0) rfl rfl rfl rfl (by conv => lhs; whnf) ?_
  refine GL.load I0.mono rfl rfl rfl rfl (by simp) rfl rfl ?_
  refine GL.fieldAddr I0.mono (o := 0) rfl rfl rfl rfl (by conv => lhs; whnf) ?_
  refine GL.load I0.mono rfl rfl rfl rfl (by simp) rfl rfl ?_
  refine GL.call0 I0.mono rfl (Frz.aggc (by exact Frz.pure rfl) (Frz.aggc (by exact Frz.pure rfl) (Frz.aggn))) (same_ok _ _ h0 g0) rfl rfl (fun _ => rfl) ?_
  refine GL.move I0.mono (by conv => lhs; whnf) ?_
  refine GL.splitAt 10 rfl (fun h10 => ?_) (fun h10 => ?_)
  ·rw [h10]
   replace h10 := of_decide_eq_true h10
   refine GL.guardT rfl ?_
   refine GL.fieldAddr I0.mono (o := 1) rfl rfl rfl rfl (by conv => lhs; whnf) ?_
   refine GL.guardT rfl ?_
   refine GL.load I0.mono rfl rfl rfl rfl (by simp) rfl rfl ?_
   refine GL.guardT rfl ?_
   refine GL.fieldAddr I0.mono (o := 1) rfl rfl rfl rfl (by conv => lhs; whnf) ?_
   refine GL.guardT rfl ?_
   refine GL.load I0.mono rfl rfl rfl rfl (by simp) rfl rfl ?_
   refine GL.guardT rfl ?_
   refine GL.call0 I0.mono rfl (Frz.aggc (by exact Frz.pure rfl) (Frz.aggc (by exact Frz.pure rfl) (Frz.aggn))) (same_ok _ _ h1 g1) rfl rfl (fun _ => rfl) ?_
   refine GL.pick I0.mono rfl (by conv => lhs; whnf) ?_
   refine GL.move I0.mono (by conv => lhs; whnf) ?_
   refine GL.splitAt 17 rfl (fun h17 => ?_) (fun h17 => ?_)
   ·rw [h17]
    replace h17 := of_decide_eq_true h17
    refine GL.guardT rfl ?_
    refine GL.fieldAddr I0.mono (o := 2) rfl rfl rfl rfl (by conv => lhs; whnf) ?_
    refine GL.guardT rfl ?_
    refine GL.load I0.mono rfl rfl rfl rfl (by simp) rfl rfl ?_
    refine GL.guardT rfl ?_
    refine GL.fieldAddr I0.mono (o := 2) rfl rfl rfl rfl (by conv => lhs; whnf) ?_
    refine GL.guardT rfl ?_
    refine GL.load I0.mono rfl rfl rfl rfl (by simp) rfl rfl ?_
    refine GL.guardT rfl ?_
    refine GL.bin I0.mono rfl ?_
    refine GL.pick I0.mono rfl (by conv => lhs; whnf) ?_
    refine GL.move I0.mono (by conv => lhs; whnf) ?_
    refine GL.splitAt 24 rfl (fun h24 => ?_) (fun h24 => ?_)
    ·rw [h24]
     replace h24 := of_decide_eq_true h24
     refine GL.guardT rfl ?_
     refine GL.fieldAddr I0.mono (o := 3) rfl rfl rfl rfl (by conv => lhs; whnf) ?_
     refine GL.guardT rfl ?_
     refine GL.load I0.mono rfl rfl rfl rfl (by simp) rfl rfl ?_
     refine GL.guardT rfl ?_
     refine GL.fieldAddr I0.mono (o := 3) rfl rfl rfl rfl (by conv => lhs; whnf) ?_
     refine GL.guardT rfl ?_
     refine GL.load I0.mono rfl rfl rfl rfl (by simp) rfl rfl ?_
     refine GL.guardT rfl ?_
     refine GL.bin I0.mono rfl ?_
     refine GL.pick I0.mono rfl (by conv => lhs; whnf) ?_
     refine GL.assign I0.mono (by conv => lhs; whnf) ?_
     refine GL.doneF ?_
     refine goOn ?_
     refine Wp.retI ?_
     refine RetX.ret ?_
     refine ⟨_, _, _, _, .cons (.tmp rfl) .nil, .frz (.pure rfl), List.nodup_nil, by simp, ?_⟩
     show LV.bool _ = LV.bool _
     congr 1
     obtain ⟨ta, tb, tc, td⟩ := t
     obtain ⟨ua, ub, uc, ud⟩ := u
     (simp_all; rfl)
    ·rw [h24]
     replace h24 := of_decide_eq_false h24
     refine GL.guardF rfl ?_
     refine GL.guardF rfl ?_
     refine GL.guardF rfl ?_
     refine GL.guardF rfl ?_
     refine GL.guardF rfl ?_
     refine GL.pick I0.mono rfl (by conv => lhs; whnf) ?_
     refine GL.assign I0.mono (by conv => lhs; whnf) ?_
     refine GL.doneF ?_
     refine goOn ?_
     refine Wp.retI ?_
     refine RetX.ret ?_
     refine ⟨_, _, _, _, .cons (.tmp rfl) .nil, .frz (.pure rfl), List.nodup_nil, by simp, ?_⟩
     show LV.bool _ = LV.bool _
     congr 1
     obtain ⟨ta, tb, tc, td⟩ := t
     obtain ⟨ua, ub, uc, ud⟩ := u
     (simp_all; done)
   ·rw [h17]
    replace h17 := of_decide_eq_false h17
    refine GL.guardF rfl ?_
    refine GL.guardF rfl ?_
    refine GL.guardF rfl ?_
    refine GL.guardF rfl ?_
    refine GL.guardF rfl ?_
    refine GL.pick I0.mono rfl (by conv => lhs; whnf) ?_
    refine GL.move I0.mono (by conv => lhs; whnf) ?_
    refine GL.guardF rfl ?_
    refine GL.guardF rfl ?_
    refine GL.guardF rfl ?_
    refine GL.guardF rfl ?_
    refine GL.guardF rfl ?_
    refine GL.pick I0.mono rfl (by conv => lhs; whnf) ?_
    refine GL.assign I0.mono (by conv => lhs; whnf) ?_
    refine GL.doneF ?_
    refine goOn ?_
    refine Wp.retI ?_
    refine RetX.ret ?_
    refine ⟨_, _, _, _, .cons (.tmp rfl) .nil, .frz (.pure rfl), List.nodup_nil, by simp, ?_⟩
    show LV.bool _ = LV.bool _
    congr 1
    obtain ⟨ta, tb, tc, td⟩ := t
    obtain ⟨ua, ub, uc, ud⟩ := u
    (simp_all; done)
  ·rw [h10]
   replace h10 := of_decide_eq_false h10
   refine GL.guardF rfl ?_
   refine GL.guardF rfl ?_
   refine GL.guardF rfl ?_
   refine GL.guardF rfl ?_
   refine GL.guardF rfl ?_
   refine GL.pick I0.mono rfl (by conv => lhs; whnf) ?_
   refine GL.move I0.mono (by conv => lhs; whnf) ?_
   refine GL.guardF rfl ?_
   refine GL.guardF rfl ?_
   refine GL.guardF rfl ?_
   refine GL.guardF rfl ?_
   refine GL.guardF rfl ?_
   refine GL.pick I0.mono rfl (by conv => lhs; whnf) ?_
   refine GL.move I0.mono (by conv => lhs; whnf) ?_
   refine GL.guardF rfl ?_
   refine GL.guardF rfl ?_
   refine GL.guardF rfl ?_
   refine GL.guardF rfl ?_
   refine GL.guardF rfl ?_
   refine GL.pick I0.mono rfl (by conv => lhs; whnf) ?_
   refine GL.assign I0.mono (by conv => lhs; whnf) ?_
   refine GL.doneF ?_
   refine goOn ?_
   refine Wp.retI ?_
   refine RetX.ret ?_
   refine ⟨_, _, _, _, .cons (.tmp rfl) .nil, .frz (.pure rfl), List.nodup_nil, by simp, ?_⟩
   show LV.bool _ = LV.bool _
   congr 1
   obtain ⟨ta, tb, tc, td⟩ := t
   obtain ⟨ua, ub, uc, ud⟩ := u
   (simp_all; done)

set_option maxRecDepth 100000 in
set_option maxHeartbeats 4000000 in
theorem num_ok (z : List Int) (hz : Ints z) (k : Int) (hk : 0 ≤ k) (hk1 : k < 1000000) : CallsV Try.prog 64 [.sl (em ni z), .int .i64 k] (.int .i64 (num z k)) := by
  refine CallsR.intro (I0.sound _) mix Try.func64 rfl rfl (by simp [Try.f64]) (by kernel_rfl) (nb := 0) ?_
  unfold Try.f64
  refine Wp.seqI ?_
  refine Wp.regI I0.mono ?_
  refine GL.assign I0.mono (by conv => lhs; whnf) ?_
  refine GL.doneF ?_
  refine goOn ?_
  refine Wp.seqI ?_
  refine Wp.seqI ?_
  refine Wp.regI I0.mono ?_
  refine GL.move I0.mono (by conv => lhs; whnf) ?_
  refine GL.lenF I0.mono rfl rfl (em_len _ _) ?_
  refine GL.bin I0.mono rfl ?_
  refine GL.doneF ?_
  refine goOn ?_
  refine Wp.condI rfl (fun h7 => ?_) (fun h7 => ?_)
  ·replace h7 := of_decide_eq_true h7
   refine Wp.seqI ?_
   refine Wp.regI I0.mono ?_
   refine GL.move I0.mono (by conv => lhs; whnf) ?_
   refine GL.mulR I0.mono rfl rfl (by omega) ?_
   refine GL.assign I0.mono (by conv => lhs; whnf) ?_
   refine GL.doneF ?_
   refine goOn ?_
   refine Wp.retI ?_
   refine thenX.ret ?_
   refine RetX.ret ?_
   refine ⟨_, _, _, _, .cons (.tmp rfl) .nil, .frz (.pure rfl), List.nodup_nil, by simp, ?_⟩
   show LV.int _ _ = LV.int _ _
   congr 1
   unfold num
   (rw [if_pos (by omega)]; done)
  ·replace h7 := of_decide_eq_false h7
   have hlm := hz.len
   have hl : 0 < (z.length : Int) := by omega
   have q1 := Int.tdiv_nonneg hk (Int.le_of_lt hl)
   have q2 := Int.tdiv_le_self (z.length : Int) hk
   have m1 := Int.tmod_nonneg (z.length : Int) hk
   have m2 := Int.tmod_lt_of_pos k hl
   have hx := hz.at (k.tmod z.length).toNat
   unfold In at hx
   refine Wp.skipI ?_
   refine goOn ?_
   refine Wp.seqI ?_
   refine Wp.regD ?_
   refine GL.move I0.mono (by conv => lhs; whnf) ?_
   refine GL.move I0.mono (by conv => lhs; whnf) ?_
   refine GL.move I0.mono (by conv => lhs; whnf) ?_
   refine GL.lenF I0.mono rfl rfl (em_len _ _) ?_
   refine GL.remR I0.mono rfl rfl (by omega) ?_
   refine GL.indexAddrF I0.mono (sz := 1) rfl rfl rfl rfl (by omega) (by (rw [em_len]; omega)) (by intro e he; obtain ⟨a, -, rfl⟩ := List.mem_map.1 he; rfl) (by rfl) ?_
   refine GL.loadF I0.mono rfl rfl (em_get (by omega)) rfl ?_
   refine GL.move I0.mono (by conv => lhs; whnf) ?_
   refine GL.move I0.mono (by conv => lhs; whnf) ?_
   refine GL.lenF I0.mono rfl rfl (em_len _ _) ?_
   refine GL.quoR I0.mono rfl rfl (by omega) ?_
   refine GL.addR I0.mono rfl rfl (by omega) ?_
   refine GL.quoR I0.mono rfl rfl (by omega) ?_
   refine GL.move I0.mono (by conv => lhs; whnf) ?_
   refine GL.move I0.mono (by conv => lhs; whnf) ?_
   refine GL.lenF I0.mono rfl rfl (em_len _ _) ?_
   refine GL.quoR I0.mono rfl rfl (by omega) ?_
   refine GL.bin I0.mono rfl ?_
   refine GL.assign I0.mono (by conv => lhs; whnf) ?_
   refine GL.doneT (by kernel_rfl) ?_
   refine goOn ?_
   refine Wp.retI ?_
   refine RetX.ret ?_
   refine ⟨_, _, _, _, .cons (.tmp rfl) .nil, .frz (.pure rfl), List.nodup_nil, by simp, ?_⟩
   show LV.int _ _ = LV.int _ _
   congr 1
   unfold num
   (rw [if_neg (by omega)]; rfl)

end Go.Proofs.Ytpepcfombibpeaa
