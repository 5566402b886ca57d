/- Small functions of the library and of the edits, walked. -/
import Derived.Test.YtffnlhjdlhpmjaaProg
import Derived.Test.YtffnlhjdlhpmjaaSl
import Derived.KernelRfl
set_option linter.all false
namespace Go.Proofs.Ytffnlhjdlhpmjaa
open Go.Proofs Mv
theorem mix : Try.prog.follows .mixedOrders = true := by kernel_rfl
set_option maxRecDepth 100000 in
set_option maxHeartbeats 4000000 in
theorem nan_ok (x : Int) : CallsV Try.prog 106 [.int .i64 x] (.bool false) := by
  refine CallsR.intro (I0.sound _) mix Try.func106 rfl rfl (by simp [Try.f106]) (by kernel_rfl) (nb := 0) ?_
  unfold Try.f106
  refine Wp.seqI ?_
  refine Wp.regI I0.mono ?_
  refine GL.assign I0.mono (by conv => lhs; whnf) ?_
  refine GL.doneF ?_
  refine goOn ?_
  refine Wp.seqI ?_
  refine Wp.regI I0.mono ?_
  refine GL.move I0.mono (by conv => lhs; whnf) ?_
  refine GL.move I0.mono (by conv => lhs; whnf) ?_
  refine GL.bin I0.mono rfl ?_
  refine GL.assign I0.mono (by conv => lhs; whnf) ?_
  refine GL.doneF ?_
  refine goOn ?_
  refine Wp.retI ?_
  refine RetX.ret ?_
  refine ⟨_, _, _, _, .cons (.tmp rfl) .nil, .frz (.pure rfl), List.nodup_nil, by simp, ?_⟩
  show LV.bool (_ != _) = _
  rw [bne_self_eq_false]

set_option maxRecDepth 100000 in
set_option maxHeartbeats 4000000 in
theorem cmp_ok (a b : Int) : CallsV Try.prog 66 [.int .i64 a, .int .i64 b] (.int .i64 (cmpI a b)) := by
  refine CallsR.intro (I0.sound _) mix Try.func66 rfl rfl (by simp [Try.f66]) (by kernel_rfl) (nb := 0) ?_
  unfold Try.f66
  refine Wp.seqI ?_
  refine Wp.regI I0.mono ?_
  refine GL.assign I0.mono (by conv => lhs; whnf) ?_
  refine GL.doneF ?_
  refine goOn ?_
  refine Wp.seqI ?_
  refine Wp.regI I0.mono ?_
  refine GL.move I0.mono (by conv => lhs; whnf) ?_
  refine GL.call0 I0.mono rfl (Frz.aggc (by exact Frz.pure rfl) (Frz.aggn)) (nan_ok _) rfl rfl (fun _ => rfl) ?_
  refine GL.assign I0.mono (by conv => lhs; whnf) ?_
  refine GL.doneF ?_
  refine goOn ?_
  refine Wp.seqI ?_
  refine Wp.regI I0.mono ?_
  refine GL.move I0.mono (by conv => lhs; whnf) ?_
  refine GL.call0 I0.mono rfl (Frz.aggc (by exact Frz.pure rfl) (Frz.aggn)) (nan_ok _) rfl rfl (fun _ => rfl) ?_
  refine GL.assign I0.mono (by conv => lhs; whnf) ?_
  refine GL.doneF ?_
  refine goOn ?_
  refine Wp.seqI ?_
  refine Wp.seqI ?_
  refine Wp.regI I0.mono ?_
  refine GL.move I0.mono (by conv => lhs; whnf) ?_
  refine GL.doneF ?_
  refine goOn ?_
  refine Wp.condF rfl ?_
  refine Wp.skipI ?_
  refine goOn ?_
  refine Wp.seqI ?_
  refine Wp.seqI ?_
  refine Wp.regI I0.mono ?_
  refine GL.move I0.mono (by conv => lhs; whnf) ?_
  refine GL.doneF ?_
  refine goOn ?_
  refine Wp.condF rfl ?_
  refine Wp.skipI ?_
  refine goOn ?_
  refine Wp.seqI ?_
  refine Wp.seqI ?_
  refine Wp.regI I0.mono ?_
  refine GL.move I0.mono (by conv => lhs; whnf) ?_
  refine GL.move I0.mono (by conv => lhs; whnf) ?_
  refine GL.bin I0.mono rfl ?_
  refine GL.doneF ?_
  refine goOn ?_
  refine Wp.condI rfl (fun h16 => ?_) (fun h16 => ?_)
  ·replace h16 := of_decide_eq_true h16
   refine Wp.seqI ?_
   refine Wp.regI I0.mono ?_
   refine GL.assign I0.mono (by conv => lhs; whnf) ?_
   refine GL.doneF ?_
   refine goOn ?_
   refine Wp.retI ?_
   refine thenX.ret ?_
   refine RetX.ret ?_
   refine ⟨_, _, _, _, .cons (.tmp rfl) .nil, .frz (.pure rfl), List.nodup_nil, by simp, ?_⟩
   show LV.int _ _ = LV.int _ _
   congr 1
   unfold cmpI
   (rw [if_pos (by exact h16)]; done)
  ·replace h16 := of_decide_eq_false h16
   refine Wp.skipI ?_
   refine goOn ?_
   refine Wp.seqI ?_
   refine Wp.seqI ?_
   refine Wp.regI I0.mono ?_
   refine GL.move I0.mono (by conv => lhs; whnf) ?_
   refine GL.move I0.mono (by conv => lhs; whnf) ?_
   refine GL.bin I0.mono rfl ?_
   refine GL.doneF ?_
   refine goOn ?_
   refine Wp.condI rfl (fun h19 => ?_) (fun h19 => ?_)
   ·replace h19 := of_decide_eq_true h19
    refine Wp.seqI ?_
    refine Wp.regI I0.mono ?_
    refine GL.assign I0.mono (by conv => lhs; whnf) ?_
    refine GL.doneF ?_
    refine goOn ?_
    refine Wp.retI ?_
    refine thenX.ret ?_
    refine RetX.ret ?_
    refine ⟨_, _, _, _, .cons (.tmp rfl) .nil, .frz (.pure rfl), List.nodup_nil, by simp, ?_⟩
    show LV.int _ _ = LV.int _ _
    congr 1
    unfold cmpI
    (rw [if_neg (by exact h16), if_pos (by exact h19)]; done)
   ·replace h19 := of_decide_eq_false h19
    refine Wp.skipI ?_
    refine goOn ?_
    refine Wp.seqI ?_
    refine Wp.regI I0.mono ?_
    refine GL.assign I0.mono (by conv => lhs; whnf) ?_
    refine GL.doneF ?_
    refine goOn ?_
    refine Wp.retI ?_
    refine RetX.ret ?_
    refine ⟨_, _, _, _, .cons (.tmp rfl) .nil, .frz (.pure rfl), List.nodup_nil, by simp, ?_⟩
    show LV.int _ _ = LV.int _ _
    congr 1
    unfold cmpI
    (rw [if_neg (by exact h16), if_neg (by exact h19)])

set_option maxRecDepth 100000 in
set_option maxHeartbeats 4000000 in
theorem equal_ok (l l' : List Int) (hl : Short l) (hl' : l'.length < 9223372036854775808) : CallsV Try.prog 63 [.sl (em ni l), .sl (em ni l')] (.bool (decide (l = l'))) := by
  refine CallsR.intro (I0.sound _) mix Try.func63 rfl rfl (by simp [Try.f63]) (by kernel_rfl) (nb := 0) ?_
  unfold Try.f63
  refine Wp.seqI ?_
  refine Wp.regI I0.mono ?_
  refine GL.assign I0.mono (by conv => lhs; whnf) ?_
  refine GL.doneF ?_
  refine goOn ?_
  refine Wp.seqI ?_
  refine Wp.seqI ?_
  refine Wp.regI I0.mono ?_
  refine GL.move I0.mono (by conv => lhs; whnf) ?_
  refine GL.lenF I0.mono rfl rfl (em_len _ _) ?_
  refine GL.move I0.mono (by conv => lhs; whnf) ?_
  refine GL.lenF I0.mono rfl rfl (em_len _ _) ?_
  refine GL.bin I0.mono rfl ?_
  refine GL.doneF ?_
  refine goOn ?_
  refine Wp.condI rfl (fun h10 => ?_) (fun h10 => ?_)
  ·replace h10 := bne_true h10
   unfold Short at hl
   refine Wp.seqI ?_
   refine Wp.regI I0.mono ?_
   refine GL.assign I0.mono (by conv => lhs; whnf) ?_
   refine GL.doneF ?_
   refine goOn ?_
   refine Wp.retI ?_
   refine thenX.ret ?_
   refine RetX.ret ?_
   refine ⟨_, _, _, _, .cons (.tmp rfl) .nil, .frz (.pure rfl), List.nodup_nil, by simp, ?_⟩
   show LV.bool _ = LV.bool _
   congr 1
   symm
   (refine decide_eq_false (fun h => ?_); subst h; simp at h10; done)
  ·replace h10 := bne_false h10
   unfold Short at hl
   have h10e : l.length = l'.length := by first | omega | (simp at h10; omega)
   refine Wp.skipI ?_
   refine goOn ?_
   refine Wp.seqI ?_
   refine Wp.seqI ?_
   refine Wp.regI I0.mono ?_
   refine GL.move I0.mono (by conv => lhs; whnf) ?_
   refine GL.lenF I0.mono rfl rfl (em_len _ _) ?_
   refine GL.move I0.mono (by conv => lhs; whnf) ?_
   refine GL.doneF ?_
   refine goOn ?_
   refine Wp.blockI ?_
   refine Wp.loopI I0.mono (α := Nat) (fun i st => (i ≤ l.length ∧ ∀ j, j < i → l.getD j default = l'.getD j default) ∧ ∃ m0, st = ⟨(updS (updS (updS (updS (fun _ => LV.undef) 0 (.sl (em ni l))) 1 (.sl (em ni l'))) 12 (.int .i64 (l.length : Int))) 13 (.int .i64 (i : Int))), effM m0 []⟩) (fun i => l.length - i) 0 ⟨_, (LessS.weak (LessS.upd (LessS.upd (LessS.upd (LessS.upd (LessS.nil _) rfl) rfl) rfl) rfl) _), ⟨by omega, fun j h => by omega⟩, _, (congrArg (St.mk _) (effM_eq Has.nil).symm)⟩ ?_
   rintro i _ ⟨⟨hi, hA⟩, m0, rfl⟩
   refine Wp.seqI ?_
   refine Wp.regI I0.mono ?_
   refine GL.bin I0.mono rfl ?_
   refine GL.doneF ?_
   refine goOn ?_
   refine Wp.seqI ?_
   refine Wp.condI rfl (fun h14 => ?_) (fun h14 => ?_)
   ·replace h14 := of_decide_eq_true h14
    refine Wp.skipI ?_
    refine goOn ?_
    refine Wp.seqI ?_
    refine Wp.blockI ?_
    refine Wp.seqI ?_
    refine Wp.regI I0.mono ?_
    refine GL.move I0.mono (by conv => lhs; whnf) ?_
    refine GL.assign I0.mono (by conv => lhs; whnf) ?_
    refine GL.doneF ?_
    refine goOn ?_
    refine Wp.seqI ?_
    refine Wp.regD ?_
    refine GL.move I0.mono (by conv => lhs; whnf) ?_
    refine GL.move I0.mono (by conv => lhs; whnf) ?_
    refine GL.indexAddrF I0.mono (sz := 1) rfl rfl rfl rfl (by omega) (by (rw [em_len]; omega)) (by intro e he; obtain ⟨a, -, rfl⟩ := List.mem_map.1 he; rfl) (by with_reducible exact Int.toNat_natCast _) ?_
    refine GL.loadF I0.mono rfl rfl (em_get (by omega)) rfl ?_
    refine GL.move I0.mono (by conv => lhs; whnf) ?_
    refine GL.move I0.mono (by conv => lhs; whnf) ?_
    refine GL.indexAddrF I0.mono (sz := 1) rfl rfl rfl rfl (by omega) (by (rw [em_len]; omega)) (by intro e he; obtain ⟨a, -, rfl⟩ := List.mem_map.1 he; rfl) (by with_reducible exact Int.toNat_natCast _) ?_
    refine GL.loadF I0.mono rfl rfl (em_get (by omega)) rfl ?_
    refine GL.bin I0.mono rfl ?_
    refine GL.doneT (by kernel_rfl) ?_
    refine goOn ?_
    refine Wp.condI rfl (fun h24 => ?_) (fun h24 => ?_)
    ·replace h24 := bne_true h24
     refine Wp.seqI ?_
     refine Wp.regI I0.mono ?_
     refine GL.assign I0.mono (by conv => lhs; whnf) ?_
     refine GL.doneF ?_
     refine goOn ?_
     refine Wp.retI ?_
     refine blockX.ret ?_
     refine thenX.ret ?_
     refine thenX.ret ?_
     refine blockX.ret ?_
     refine thenX.ret ?_
     refine RetX.ret ?_
     refine ⟨_, _, _, _, .cons (.tmp rfl) .nil, .frz (.pure rfl), List.nodup_nil, by simp, ?_⟩
     show LV.bool _ = LV.bool _
     congr 1
     symm
     (refine decide_eq_false (fun h => ?_); subst h; simp at h24; done)
    ·replace h24 := bne_false h24
     refine Wp.skipI ?_
     refine blockX.normal ?_
     refine goOn ?_
     refine Wp.regI I0.mono ?_
     refine GL.addR I0.mono rfl rfl (by omega) ?_
     refine GL.move I0.mono (by conv => lhs; whnf) ?_
     refine GL.doneF ?_
     refine ⟨i + 1, (by dsimp only; omega), _, (LessS.weak (LessS.upd (LessS.upd (LessS.upd (LessS.upd (LessS.nil _) rfl) rfl) rfl) rfl) _), ⟨by omega, fun j h => by
           by_cases hj : j = i
           · subst hj; simpa using h24
           · exact hA j (by omega)⟩, _, (congrArg (St.mk _) (effM_eq Has.nil).symm)⟩
   ·replace h14 := of_decide_eq_false h14
    refine Wp.exitI ?_
    refine thenX.exit ?_
    refine thenX.exit ?_
    refine blockX.out ?_
    refine goOn ?_
    refine Wp.seqI ?_
    refine Wp.regI I0.mono ?_
    refine GL.assign I0.mono (by conv => lhs; whnf) ?_
    refine GL.doneF ?_
    refine goOn ?_
    refine Wp.retI ?_
    refine RetX.ret ?_
    refine ⟨_, _, _, _, .cons (.tmp rfl) .nil, .frz (.pure rfl), List.nodup_nil, by simp, ?_⟩
    show LV.bool _ = LV.bool _
    congr 1
    symm
    (exact decide_eq_true (same_ext h10e fun j hj => hA j (by omega)))

set_option maxRecDepth 100000 in
set_option maxHeartbeats 4000000 in
theorem cloneI0 : CallsV Try.prog 103 [.sl (em ni [])] (.slo 1 (em ni [])) := by
  refine CallsR.intro (I0.sound _) mix Try.func103 rfl rfl (by simp [Try.f103]) (by kernel_rfl) (nb := 0) ?_
  unfold Try.f103
  refine Wp.seqI ?_
  refine Wp.regI I0.mono ?_
  refine GL.assign I0.mono (by conv => lhs; whnf) ?_
  refine GL.doneF ?_
  refine goOn ?_
  refine Wp.seqI ?_
  refine Wp.seqI ?_
  refine Wp.regI I0.mono ?_
  refine GL.move I0.mono (by conv => lhs; whnf) ?_
  refine GL.nilSl I0.mono rfl rfl rfl ?_
  intro bn hbn
  refine GL.doneF ?_
  refine goOn ?_
  refine Wp.condI rfl (fun h4 => ?_) (fun h4 => ?_)
  ·skip
   refine Wp.seqI ?_
   refine Wp.regI I0.mono ?_
   refine GL.assign I0.mono (by conv => lhs; whnf) ?_
   refine GL.doneF ?_
   refine goOn ?_
   refine Wp.retI ?_
   refine thenX.ret ?_
   refine RetX.ret ?_
   exact ⟨_, _, _, _, .cons (.tmp rfl) .nil, .nils, List.nodup_nil, by simp, rfl⟩
  ·skip
   refine Wp.skipI ?_
   refine goOn ?_
   refine Wp.seqI ?_
   refine Wp.regI I0.mono ?_
   refine GL.buildSlice00 I0.mono rfl rfl (by decide) ?_
   intro g5
   refine GL.move I0.mono (by conv => lhs; whnf) ?_
   refine GL.appendE I0.mono rfl rfl rfl rfl rfl rfl (show LV.sl (em ni []) = .sl [] from rfl) ?_
   refine GL.assign I0.mono (by conv => lhs; whnf) ?_
   refine GL.doneF ?_
   refine goOn ?_
   refine Wp.retI ?_
   refine RetX.ret ?_
   exact ⟨_, _, _, _, .cons (.tmp rfl) .nil, .slo rfl rfl rfl rfl rfl, by simp, by simp, rfl⟩

set_option maxRecDepth 100000 in
set_option maxHeartbeats 4000000 in
theorem cloneI1 (l : List Int) (h0 : 0 < l.length) (hl : l.length ≤ 4294967296) : CallsV Try.prog 103 [.sl (em ni l)] (.slo 1 (em ni l)) := by
  refine CallsR.intro (I0.sound _) mix Try.func103 rfl rfl (by simp [Try.f103]) (by kernel_rfl) (nb := 0) ?_
  unfold Try.f103
  refine Wp.seqI ?_
  refine Wp.regI I0.mono ?_
  refine GL.assign I0.mono (by conv => lhs; whnf) ?_
  refine GL.doneF ?_
  refine goOn ?_
  refine Wp.seqI ?_
  refine Wp.seqI ?_
  refine Wp.regI I0.mono ?_
  refine GL.move I0.mono (by conv => lhs; whnf) ?_
  refine GL.nilSl I0.mono rfl rfl rfl ?_
  intro bn hbn
  refine GL.doneF ?_
  refine goOn ?_
  refine Wp.condI rfl (fun h4 => ?_) (fun h4 => ?_)
  ·skip
   (have := congrArg List.length (hbn h4); rw [em_len] at this; rw [this] at h0; exact absurd h0 (by decide))
  ·skip
   refine Wp.skipI ?_
   refine goOn ?_
   refine Wp.seqI ?_
   refine Wp.regI I0.mono ?_
   refine GL.buildSlice00 I0.mono rfl rfl (by decide) ?_
   intro g5
   refine GL.move I0.mono (by conv => lhs; whnf) ?_
   refine GL.appendO I0.mono (f := ni) (l := []) (l2 := l) (n2 := l.length) (sz := 1) (z := [.int .i64 0]) rfl rfl rfl rfl rfl (by decide) (Nat.le_of_ble_eq_true rfl) rfl rfl rfl rfl rfl rfl rfl rfl rfl (fun _ => rfl) (fun _ => rfl) rfl h0 (by omega) ?_
   refine GL.assign I0.mono (by conv => lhs; whnf) ?_
   refine GL.doneF ?_
   refine goOn ?_
   refine Wp.retI ?_
   refine RetX.ret ?_
   exact ⟨_, _, _, _, .cons (.tmp rfl) .nil, .slo rfl rfl rfl rfl (by rw [em_len]; simp), by simp, by simp, rfl⟩

theorem cloneI (l : List Int) (hl : l.length ≤ 4294967296) : CallsV Try.prog 103 [.sl (em ni l)] (.slo 1 (em ni l)) := by
  by_cases h0 : 0 < l.length
  · exact cloneI1 l h0 hl
  · have : l = [] := List.eq_nil_of_length_eq_zero (by omega)
    subst this
    exact cloneI0

set_option maxRecDepth 100000 in
set_option maxHeartbeats 4000000 in
theorem cloneH0 : CallsV Try.prog 108 [.sl (em kh [])] (.slo 3 (em kh [])) := by
  refine CallsR.intro (I0.sound _) mix Try.func108 rfl rfl (by simp [Try.f108]) (by kernel_rfl) (nb := 0) ?_
  unfold Try.f108
  refine Wp.seqI ?_
  refine Wp.regI I0.mono ?_
  refine GL.assign I0.mono (by conv => lhs; whnf) ?_
  refine GL.doneF ?_
  refine goOn ?_
  refine Wp.seqI ?_
  refine Wp.seqI ?_
  refine Wp.regI I0.mono ?_
  refine GL.move I0.mono (by conv => lhs; whnf) ?_
  refine GL.nilSl I0.mono rfl rfl rfl ?_
  intro bn hbn
  refine GL.doneF ?_
  refine goOn ?_
  refine Wp.condI rfl (fun h4 => ?_) (fun h4 => ?_)
  ·skip
   refine Wp.seqI ?_
   refine Wp.regI I0.mono ?_
   refine GL.assign I0.mono (by conv => lhs; whnf) ?_
   refine GL.doneF ?_
   refine goOn ?_
   refine Wp.retI ?_
   refine thenX.ret ?_
   refine RetX.ret ?_
   exact ⟨_, _, _, _, .cons (.tmp rfl) .nil, .nils, List.nodup_nil, by simp, rfl⟩
  ·skip
   refine Wp.skipI ?_
   refine goOn ?_
   refine Wp.seqI ?_
   refine Wp.regI I0.mono ?_
   refine GL.buildSlice00 I0.mono rfl rfl (by decide) ?_
   intro g5
   refine GL.move I0.mono (by conv => lhs; whnf) ?_
   refine GL.appendE I0.mono rfl rfl rfl rfl rfl rfl (show LV.sl (em kh []) = .sl [] from rfl) ?_
   refine GL.assign I0.mono (by conv => lhs; whnf) ?_
   refine GL.doneF ?_
   refine goOn ?_
   refine Wp.retI ?_
   refine RetX.ret ?_
   exact ⟨_, _, _, _, .cons (.tmp rfl) .nil, .slo rfl rfl rfl rfl rfl, by simp, by simp, rfl⟩

set_option maxRecDepth 100000 in
set_option maxHeartbeats 4000000 in
theorem cloneH1 (l : List Hold) (h0 : 0 < l.length) (hl : l.length ≤ 4294967296) : CallsV Try.prog 108 [.sl (em kh l)] (.slo 3 (em kh l)) := by
  refine CallsR.intro (I0.sound _) mix Try.func108 rfl rfl (by simp [Try.f108]) (by kernel_rfl) (nb := 0) ?_
  unfold Try.f108
  refine Wp.seqI ?_
  refine Wp.regI I0.mono ?_
  refine GL.assign I0.mono (by conv => lhs; whnf) ?_
  refine GL.doneF ?_
  refine goOn ?_
  refine Wp.seqI ?_
  refine Wp.seqI ?_
  refine Wp.regI I0.mono ?_
  refine GL.move I0.mono (by conv => lhs; whnf) ?_
  refine GL.nilSl I0.mono rfl rfl rfl ?_
  intro bn hbn
  refine GL.doneF ?_
  refine goOn ?_
  refine Wp.condI rfl (fun h4 => ?_) (fun h4 => ?_)
  ·skip
   (have := congrArg List.length (hbn h4); rw [em_len] at this; rw [this] at h0; exact absurd h0 (by decide))
  ·skip
   refine Wp.skipI ?_
   refine goOn ?_
   refine Wp.seqI ?_
   refine Wp.regI I0.mono ?_
   refine GL.buildSlice00 I0.mono rfl rfl (by decide) ?_
   intro g5
   refine GL.move I0.mono (by conv => lhs; whnf) ?_
   refine GL.appendO I0.mono (f := kh) (l := []) (l2 := l) (n2 := l.length) (sz := 3) (z := [.int .i64 0, .int .i64 0, .int .i64 0]) rfl rfl rfl rfl rfl (by decide) (Nat.le_of_ble_eq_true rfl) rfl rfl rfl rfl rfl rfl rfl rfl rfl (fun _ => rfl) (fun _ => rfl) rfl h0 (by omega) ?_
   refine GL.assign I0.mono (by conv => lhs; whnf) ?_
   refine GL.doneF ?_
   refine goOn ?_
   refine Wp.retI ?_
   refine RetX.ret ?_
   exact ⟨_, _, _, _, .cons (.tmp rfl) .nil, .slo rfl rfl rfl rfl (by rw [em_len]; simp), by simp, by simp, rfl⟩

theorem cloneH (l : List Hold) (hl : l.length ≤ 4294967296) : CallsV Try.prog 108 [.sl (em kh l)] (.slo 3 (em kh l)) := by
  by_cases h0 : 0 < l.length
  · exact cloneH1 l h0 hl
  · have : l = [] := List.eq_nil_of_length_eq_zero (by omega)
    subst this
    exact cloneH0

theorem cloneF (l : List Int) (hl : l.length ≤ 4294967296) : CallsV Try.prog 103 [.sl (em ni l)] (.sl (em ni l)) := (cloneI l hl).freeze rfl

end Go.Proofs.Ytffnlhjdlhpmjaa
