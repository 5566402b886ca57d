/- Where stops are, what is held: walked. -/
import Derived.Test.YtffnlhjdlhpmjaaProg
import Derived.Test.YtffnlhjdlhpmjaaKf
import Derived.Test.YtffnlhjdlhpmjaaMvD
import Derived.KernelRfl
set_option linter.all false
namespace Go.Proofs.Ytffnlhjdlhpmjaa
open Go.Proofs Mv
set_option maxRecDepth 100000 in
set_option maxHeartbeats 4000000 in
theorem index_ok (l : List Int) (hs : Short l) (n : Int) : CallsV Try.prog 94 [.sl (em ni l), .int .i64 n] (.int .i64 (index l n)) := by
  refine CallsR.intro (I0.sound _) mix Try.func94 rfl rfl (by simp [Try.f94]) (by kernel_rfl) (nb := 0) ?_
  unfold Try.f94
  refine Wp.seqI ?_
  refine Wp.regI I0.mono ?_
  refine GL.assign I0.mono (by conv => lhs; whnf) ?_
  refine GL.doneF ?_
  refine goOn ?_
  refine Wp.seqI ?_
  refine Wp.seqI ?_
  refine Wp.regI I0.mono ?_
  refine GL.move I0.mono (by conv => lhs; whnf) ?_
  refine GL.lenF I0.mono rfl rfl (em_len _ _) ?_
  refine GL.move I0.mono (by conv => lhs; whnf) ?_
  refine GL.doneF ?_
  refine goOn ?_
  refine Wp.blockI ?_
  refine Wp.loopI I0.mono (α := Nat) (fun k st => (k ≤ l.length ∧ ∀ j, j < k → n ≠ l.getD j default) ∧ ∃ m0, st = ⟨(updS (updS (updS (updS (fun _ => LV.undef) 0 (.sl (em ni l))) 7 (.int .i64 (l.length : Int))) 8 (.int .i64 (k : Int))) 1 (.int .i64 n)), effM m0 []⟩) (fun k => l.length - k) 0 ⟨_, (LessS.weak (LessS.upd (LessS.upd (LessS.upd (LessS.upd (LessS.nil _) rfl) rfl) rfl) rfl) _), ⟨by omega, fun j h => by omega⟩, _, (congrArg (St.mk _) (effM_eq Has.nil).symm)⟩ ?_
  rintro k _ ⟨⟨hi, hA⟩, m0, rfl⟩
  have hsp := hs
  unfold Short at hsp
  refine Wp.seqI ?_
  refine Wp.regI I0.mono ?_
  refine GL.bin I0.mono rfl ?_
  refine GL.doneF ?_
  refine goOn ?_
  refine Wp.seqI ?_
  refine Wp.condI rfl (fun h9 => ?_) (fun h9 => ?_)
  ·replace h9 := of_decide_eq_true h9
   refine Wp.skipI ?_
   refine goOn ?_
   refine Wp.seqI ?_
   refine Wp.blockI ?_
   refine Wp.seqI ?_
   refine Wp.regI I0.mono ?_
   refine GL.move I0.mono (by conv => lhs; whnf) ?_
   refine GL.assign I0.mono (by conv => lhs; whnf) ?_
   refine GL.doneF ?_
   refine goOn ?_
   refine Wp.seqI ?_
   refine Wp.regI I0.mono ?_
   refine GL.move I0.mono (by conv => lhs; whnf) ?_
   refine GL.move I0.mono (by conv => lhs; whnf) ?_
   refine GL.move I0.mono (by conv => lhs; whnf) ?_
   refine GL.indexAddrF I0.mono (sz := 1) rfl rfl rfl rfl (by omega) (by (rw [em_len]; omega)) (by intro e he; obtain ⟨a, -, rfl⟩ := List.mem_map.1 he; rfl) (by with_reducible exact Int.toNat_natCast _) ?_
   refine GL.loadF I0.mono rfl rfl (em_get (by omega)) rfl ?_
   refine GL.bin I0.mono rfl ?_
   refine GL.doneF ?_
   refine goOn ?_
   refine Wp.condI rfl (fun h16 => ?_) (fun h16 => ?_)
   ·replace h16 := of_decide_eq_true h16
    refine Wp.seqI ?_
    refine Wp.regI I0.mono ?_
    refine GL.move I0.mono (by conv => lhs; whnf) ?_
    refine GL.assign I0.mono (by conv => lhs; whnf) ?_
    refine GL.doneF ?_
    refine goOn ?_
    refine Wp.retI ?_
    refine blockX.ret ?_
    refine thenX.ret ?_
    refine thenX.ret ?_
    refine blockX.ret ?_
    refine thenX.ret ?_
    refine RetX.ret ?_
    refine ⟨_, _, _, _, .cons (.tmp rfl) .nil, .frz (.pure rfl), List.nodup_nil, by simp, ?_⟩
    show LV.int _ _ = LV.int _ _
    congr 1
    symm
    first
    | (rw [index_off l n k (by omega) hA, drop_all (by omega)]; rfl)
    | (have hx : index (l.drop k) n = 0 := by rw [drop_getD (by omega), index, if_pos (by simpa using h16)]
       rw [index_off l n k (by omega) hA, hx]; simp; done)
   ·replace h16 := of_decide_eq_false h16
    refine Wp.skipI ?_
    refine blockX.normal ?_
    refine goOn ?_
    refine Wp.regI I0.mono ?_
    refine GL.addR I0.mono rfl rfl (by omega) ?_
    refine GL.move I0.mono (by conv => lhs; whnf) ?_
    refine GL.doneF ?_
    refine ⟨k + 1, (by dsimp only; omega), _, (LessS.weak (LessS.upd (LessS.upd (LessS.upd (LessS.upd (LessS.nil _) rfl) rfl) rfl) rfl) _), ⟨by omega, fun j h => by
          by_cases hj : j = k
          · subst hj; simpa using h16
          · exact hA j (by omega)⟩, _, (congrArg (St.mk _) (effM_eq Has.nil).symm)⟩
  ·replace h9 := of_decide_eq_false h9
   refine Wp.exitI ?_
   refine thenX.exit ?_
   refine thenX.exit ?_
   refine blockX.out ?_
   refine goOn ?_
   refine Wp.seqI ?_
   refine Wp.regI I0.mono ?_
   refine GL.assign I0.mono (by conv => lhs; whnf) ?_
   refine GL.doneF ?_
   refine goOn ?_
   refine Wp.retI ?_
   refine RetX.ret ?_
   refine ⟨_, _, _, _, .cons (.tmp rfl) .nil, .frz (.pure rfl), List.nodup_nil, by simp, ?_⟩
   show LV.int _ _ = LV.int _ _
   congr 1
   symm
   first
   | (rw [index_off l n k (by omega) hA, drop_all (by omega)]; rfl)
   | (have hx : index (l.drop k) n = 0 := by rw [drop_getD (by omega), index, if_pos (by simpa using h16)]
      rw [index_off l n k (by omega) hA, hx]; simp; done)

set_option maxRecDepth 100000 in
set_option maxHeartbeats 4000000 in
theorem other_ok (h w : Int) : CallsV Try.prog 131 [.int .i64 h, .int .i64 w] (.bool (other h w)) := by
  refine CallsR.intro (I0.sound _) mix Try.func131 rfl rfl (by simp [Try.f131]) (by kernel_rfl) (nb := 0) ?_
  unfold Try.f131
  refine Wp.seqI ?_
  refine Wp.regI I0.mono ?_
  refine GL.assign I0.mono (by conv => lhs; whnf) ?_
  refine GL.doneF ?_
  refine goOn ?_
  refine Wp.seqI ?_
  refine Wp.regI I0.mono ?_
  refine GL.move I0.mono (by conv => lhs; whnf) ?_
  refine GL.bin I0.mono rfl ?_
  refine GL.move I0.mono (by conv => lhs; whnf) ?_
  refine GL.splitAt 7 rfl (fun h7 => ?_) (fun h7 => ?_)
  ·rw [h7]
   replace h7 := bne_true h7
   refine GL.guardT rfl ?_
   refine GL.move I0.mono (by conv => lhs; whnf) ?_
   refine GL.guardT rfl ?_
   refine GL.move I0.mono (by conv => lhs; whnf) ?_
   refine GL.guardT rfl ?_
   refine GL.bin I0.mono rfl ?_
   refine GL.pick I0.mono rfl (by conv => lhs; whnf) ?_
   refine GL.assign I0.mono (by conv => lhs; whnf) ?_
   refine GL.doneF ?_
   refine goOn ?_
   refine Wp.retI ?_
   refine RetX.ret ?_
   refine ⟨_, _, _, _, .cons (.tmp rfl) .nil, .frz (.pure rfl), List.nodup_nil, by simp, ?_⟩
   show LV.bool _ = LV.bool _
   congr 1
   unfold other
   (rw [decide_eq_true (by omega : h ≠ -1)]; simp; rfl)
  ·rw [h7]
   replace h7 := bne_false h7
   refine GL.guardF rfl ?_
   refine GL.guardF rfl ?_
   refine GL.guardF rfl ?_
   refine GL.pick I0.mono rfl (by conv => lhs; whnf) ?_
   refine GL.assign I0.mono (by conv => lhs; whnf) ?_
   refine GL.doneF ?_
   refine goOn ?_
   refine Wp.retI ?_
   refine RetX.ret ?_
   refine ⟨_, _, _, _, .cons (.tmp rfl) .nil, .frz (.pure rfl), List.nodup_nil, by simp, ?_⟩
   show LV.bool _ = LV.bool _
   congr 1
   unfold other
   (simp_all; done)

set_option maxRecDepth 100000 in
set_option maxHeartbeats 4000000 in
theorem contT_ok (l : List Turn) (hl : l.length < 9223372036854775808) (A : FuncId) (caps : List LV) (hcaps : caps.all pureL = true) (p : Turn → Bool) (hp : ∀ t ∈ l, CallsV Try.prog A ((.agg (kt t)) :: caps) (.bool (p t))) : CallsV Try.prog 127 [.sl (em kt l), .fn A caps] (.bool (l.any p)) := by
  refine CallsR.intro (I0.sound _) mix Try.func127 rfl rfl (by simp [Try.f127]) (by kernel_rfl) (nb := 0) ?_
  unfold Try.f127
  refine Wp.seqI ?_
  refine Wp.regI I0.mono ?_
  refine GL.assign I0.mono (by conv => lhs; whnf) ?_
  refine GL.doneF ?_
  refine goOn ?_
  refine Wp.seqI ?_
  refine Wp.regI I0.mono ?_
  refine GL.move I0.mono (by conv => lhs; whnf) ?_
  refine GL.move I0.mono (by conv => lhs; whnf) ?_
  refine GL.call0 I0.mono rfl (Frz.aggc (Frz.pure rfl) (Frz.aggc (Frz.fn (Frz.pures hcaps)) Frz.aggn)) (indexT_ok l hl A caps hcaps p hp) rfl rfl (fun _ => rfl) ?_
  refine GL.bin I0.mono rfl ?_
  refine GL.assign I0.mono (by conv => lhs; whnf) ?_
  refine GL.doneF ?_
  refine goOn ?_
  refine Wp.retI ?_
  refine RetX.ret ?_
  refine ⟨_, _, _, _, .cons (.tmp rfl) .nil, .frz (.pure rfl), List.nodup_nil, by simp, ?_⟩
  show LV.bool (decide (idxP p l 0 ≥ 0)) = _
  rw [any_idxP]

set_option maxRecDepth 100000 in
set_option maxHeartbeats 4000000 in
theorem contH_ok (l : List Hold) (hl : l.length < 9223372036854775808) (A : FuncId) (caps : List LV) (hcaps : caps.all pureL = true) (p : Hold → Bool) (hp : ∀ t ∈ l, CallsV Try.prog A ((.agg (kh t)) :: caps) (.bool (p t))) : CallsV Try.prog 129 [.sl (em kh l), .fn A caps] (.bool (l.any p)) := by
  refine CallsR.intro (I0.sound _) mix Try.func129 rfl rfl (by simp [Try.f129]) (by kernel_rfl) (nb := 0) ?_
  unfold Try.f129
  refine Wp.seqI ?_
  refine Wp.regI I0.mono ?_
  refine GL.assign I0.mono (by conv => lhs; whnf) ?_
  refine GL.doneF ?_
  refine goOn ?_
  refine Wp.seqI ?_
  refine Wp.regI I0.mono ?_
  refine GL.move I0.mono (by conv => lhs; whnf) ?_
  refine GL.move I0.mono (by conv => lhs; whnf) ?_
  refine GL.call0 I0.mono rfl (Frz.aggc (Frz.pure rfl) (Frz.aggc (Frz.fn (Frz.pures hcaps)) Frz.aggn)) (indexH_ok l hl A caps hcaps p hp) rfl rfl (fun _ => rfl) ?_
  refine GL.bin I0.mono rfl ?_
  refine GL.assign I0.mono (by conv => lhs; whnf) ?_
  refine GL.doneF ?_
  refine goOn ?_
  refine Wp.retI ?_
  refine RetX.ret ?_
  refine ⟨_, _, _, _, .cons (.tmp rfl) .nil, .frz (.pure rfl), List.nodup_nil, by simp, ?_⟩
  show LV.bool (decide (idxP p l 0 ≥ 0)) = _
  rw [any_idxP]

set_option maxRecDepth 100000 in
set_option maxHeartbeats 4000000 in
theorem contI_ok (l : List Int) (hl : l.length < 9223372036854775808) (A : FuncId) (caps : List LV) (hcaps : caps.all pureL = true) (p : Int → Bool) (hp : ∀ t ∈ l, CallsV Try.prog A ((.int .i64 t) :: caps) (.bool (p t))) : CallsV Try.prog 122 [.sl (em ni l), .fn A caps] (.bool (l.any p)) := by
  refine CallsR.intro (I0.sound _) mix Try.func122 rfl rfl (by simp [Try.f122]) (by kernel_rfl) (nb := 0) ?_
  unfold Try.f122
  refine Wp.seqI ?_
  refine Wp.regI I0.mono ?_
  refine GL.assign I0.mono (by conv => lhs; whnf) ?_
  refine GL.doneF ?_
  refine goOn ?_
  refine Wp.seqI ?_
  refine Wp.regI I0.mono ?_
  refine GL.move I0.mono (by conv => lhs; whnf) ?_
  refine GL.move I0.mono (by conv => lhs; whnf) ?_
  refine GL.call0 I0.mono rfl (Frz.aggc (Frz.pure rfl) (Frz.aggc (Frz.fn (Frz.pures hcaps)) Frz.aggn)) (indexI_ok l hl A caps hcaps p hp) rfl rfl (fun _ => rfl) ?_
  refine GL.bin I0.mono rfl ?_
  refine GL.assign I0.mono (by conv => lhs; whnf) ?_
  refine GL.doneF ?_
  refine goOn ?_
  refine Wp.retI ?_
  refine RetX.ret ?_
  refine ⟨_, _, _, _, .cons (.tmp rfl) .nil, .frz (.pure rfl), List.nodup_nil, by simp, ?_⟩
  show LV.bool (decide (idxP p l 0 ≥ 0)) = _
  rw [any_idxP]

set_option maxRecDepth 100000 in
set_option maxHeartbeats 4000000 in
theorem where_ok (p : Plan) (hp : OkP p) (s : Int) : CallsV Try.prog 42 [.agg (kp p), .int .i64 s] (.tup [.int .i64 (whereR p.routes s).1, .int .i64 (whereR p.routes s).2]) := by
  refine CallsR.intro (I0.sound _) mix Try.func42 rfl rfl (by simp [Try.f42]) (by kernel_rfl) (nb := 0) ?_
  unfold Try.f42
  refine Wp.seqI ?_
  have hpr := hp.routes
  refine Wp.regI I0.mono ?_
  refine GL.box I0.mono (by conv => lhs; whnf) rfl (n := 7) rfl rfl ?_
  intro g2
  refine GL.assign I0.mono (by conv => lhs; whnf) ?_
  refine GL.assign I0.mono (by conv => lhs; whnf) ?_
  refine GL.doneF ?_
  refine goOn ?_
  refine Wp.seqI ?_
  refine Wp.seqI ?_
  refine Wp.regI I0.mono ?_
  refine GL.fieldAddr I0.mono (o := 0) rfl rfl rfl rfl (by conv => lhs; whnf) ?_
  refine GL.load I0.mono rfl rfl rfl rfl (by simp) rfl rfl ?_
  refine GL.lenF I0.mono rfl rfl (em_len _ _) ?_
  refine GL.move I0.mono (by conv => lhs; whnf) ?_
  refine GL.doneF ?_
  refine goOn ?_
  refine Wp.blockI ?_
  refine Wp.loopI I0.mono (α := Nat) (fun i st => (i ≤ p.routes.length ∧ whereGo s p.routes 0 = whereGo s (p.routes.drop i) (i : Int)) ∧ ∃ m0, st = ⟨(updS (updS (updS (updS (fun _ => LV.undef) 1 (.int .i64 s)) 10 (.sl (em nr p.routes))) 11 (.int .i64 (p.routes.length : Int))) 12 (.int .i64 (i : Int))), effM m0 []⟩) (fun i => p.routes.length - i) 0 ⟨_, (LessS.weak (LessS.upd (LessS.upd (LessS.upd (LessS.upd (LessS.nil _) rfl) rfl) rfl) rfl) _), ⟨Nat.zero_le _, rfl⟩, _, (congrArg (St.mk _) (effM_eq Has.nil).symm)⟩ ?_
  rintro i _ ⟨⟨hi, hA⟩, m0, rfl⟩
  refine Wp.seqI ?_
  refine Wp.regI I0.mono ?_
  refine GL.bin I0.mono rfl ?_
  refine GL.doneF ?_
  refine goOn ?_
  refine Wp.seqI ?_
  refine Wp.condI rfl (fun h13 => ?_) (fun h13 => ?_)
  ·replace h13 := of_decide_eq_true h13
   refine Wp.skipI ?_
   refine goOn ?_
   refine Wp.seqI ?_
   refine Wp.blockI ?_
   refine Wp.seqI ?_
   refine Wp.regI I0.mono ?_
   refine GL.move I0.mono (by conv => lhs; whnf) ?_
   refine GL.indexAddrF I0.mono (sz := 1) rfl rfl rfl rfl (by omega) (by (rw [em_len]; omega)) (by intro e he; obtain ⟨a, -, rfl⟩ := List.mem_map.1 he; rfl) (by with_reducible exact Int.toNat_natCast _) ?_
   refine GL.loadF I0.mono rfl rfl (em_get (by omega)) rfl ?_
   refine GL.assign I0.mono (by conv => lhs; whnf) ?_
   refine GL.assign I0.mono (by conv => lhs; whnf) ?_
   refine GL.doneF ?_
   refine goOn ?_
   refine Wp.seqI ?_
   refine Wp.regI I0.mono ?_
   refine GL.move I0.mono (by conv => lhs; whnf) ?_
   refine GL.move I0.mono (by conv => lhs; whnf) ?_
   refine GL.call0 I0.mono rfl (Frz.aggc (by exact Frz.pure rfl) (Frz.aggc (by exact Frz.pure rfl) (Frz.aggn))) (index_ok _ (by have := hp.each _ (getD_mem (l := p.routes) (j := i) (by omega)); unfold Short; omega) _) rfl rfl (fun _ => rfl) ?_
   refine GL.assign I0.mono (by conv => lhs; whnf) ?_
   refine GL.doneF ?_
   refine goOn ?_
   refine Wp.seqI ?_
   refine Wp.regI I0.mono ?_
   refine GL.move I0.mono (by conv => lhs; whnf) ?_
   refine GL.bin I0.mono rfl ?_
   refine GL.doneF ?_
   refine goOn ?_
   refine Wp.condI rfl (fun h21 => ?_) (fun h21 => ?_)
   ·replace h21 := of_decide_eq_true h21
    refine Wp.seqI ?_
    refine Wp.regI I0.mono ?_
    refine GL.move I0.mono (by conv => lhs; whnf) ?_
    refine GL.move I0.mono (by conv => lhs; whnf) ?_
    refine GL.assign I0.mono (by conv => lhs; whnf) ?_
    refine GL.assign I0.mono (by conv => lhs; whnf) ?_
    refine GL.doneF ?_
    refine goOn ?_
    refine Wp.retI ?_
    refine blockX.ret ?_
    refine thenX.ret ?_
    refine thenX.ret ?_
    refine blockX.ret ?_
    refine thenX.ret ?_
    refine RetX.ret ?_
    refine ⟨_, _, _, _, .cons (.tmp rfl) (.cons (.tmp rfl) .nil), .tup (.aggc (.frz (.pure rfl)) (.aggc (.frz (.pure rfl)) .aggn)), List.nodup_nil, by simp, ?_⟩
    (rw [whereR, hA, where_hit (by omega) (by omega)]; exact rfl)
   ·replace h21 := of_decide_eq_false h21
    refine Wp.skipI ?_
    refine blockX.normal ?_
    refine goOn ?_
    refine Wp.regI I0.mono ?_
    refine GL.addR I0.mono rfl rfl (by omega) ?_
    refine GL.move I0.mono (by conv => lhs; whnf) ?_
    refine GL.doneF ?_
    refine ⟨i + 1, (by dsimp only; omega), _, (LessS.weak (LessS.upd (LessS.upd (LessS.upd (LessS.upd (LessS.nil _) rfl) rfl) rfl) rfl) _), ⟨by omega, by rw [hA, where_go (by omega) (by omega)]⟩, _, (congrArg (St.mk _) (effM_eq Has.nil).symm)⟩
  ·replace h13 := of_decide_eq_false h13
   refine Wp.exitI ?_
   refine thenX.exit ?_
   refine thenX.exit ?_
   refine blockX.out ?_
   refine goOn ?_
   refine Wp.seqI ?_
   refine Wp.regI I0.mono ?_
   refine GL.assign I0.mono (by conv => lhs; whnf) ?_
   refine GL.assign I0.mono (by conv => lhs; whnf) ?_
   refine GL.doneF ?_
   refine goOn ?_
   refine Wp.retI ?_
   refine RetX.ret ?_
   refine ⟨_, _, _, _, .cons (.tmp rfl) (.cons (.tmp rfl) .nil), .tup (.aggc (.frz (.pure rfl)) (.aggc (.frz (.pure rfl)) .aggn)), List.nodup_nil, by simp, ?_⟩
   (rw [whereR, hA, where_end (by omega)]; exact rfl)

set_option maxRecDepth 100000 in
set_option maxHeartbeats 4000000 in
theorem icedB_ok (p : Plan) (hp : OkP p) (t : Turn) : CallsV Try.prog 128 [.agg (kt t), .fad [kp p] 0 0] (.bool (icedB p t)) := by
  refine CallsR.intro (I0.sound _) mix Try.func128 rfl rfl (by simp [Try.f128]) (by kernel_rfl) (nb := 0) ?_
  unfold Try.f128
  refine Wp.seqI ?_
  have hpi := hp.ice
  refine Wp.regI I0.mono ?_
  refine GL.box I0.mono (by conv => lhs; whnf) rfl (n := 3) rfl rfl ?_
  intro g2
  refine GL.assign I0.mono (by conv => lhs; whnf) ?_
  refine GL.doneF ?_
  refine goOn ?_
  refine Wp.seqI ?_
  refine Wp.regI I0.mono ?_
  refine GL.fieldAddr I0.mono (o := 0) rfl rfl rfl rfl (by conv => lhs; whnf) ?_
  refine GL.load I0.mono rfl rfl rfl rfl (by simp) rfl rfl ?_
  refine GL.bin I0.mono rfl ?_
  refine GL.move I0.mono (by conv => lhs; whnf) ?_
  refine GL.splitAt 7 rfl (fun h7 => ?_) (fun h7 => ?_)
  ·rw [h7]
   replace h7 := of_decide_eq_true h7
   refine GL.guardT rfl ?_
   refine GL.fieldAddr I0.mono (o := 0) rfl rfl rfl rfl (by conv => lhs; whnf) ?_
   refine GL.guardT rfl ?_
   refine GL.load I0.mono rfl rfl rfl rfl (by simp) rfl rfl ?_
   refine GL.guardT rfl ?_
   refine GL.fieldAddrF I0.mono (o := 2) rfl rfl (by conv => lhs; whnf) ?_
   refine GL.guardT rfl ?_
   refine GL.loadF I0.mono rfl rfl (by rfl) rfl ?_
   refine GL.guardT rfl ?_
   refine GL.lenF I0.mono rfl rfl (em_len _ _) ?_
   refine GL.guardT rfl ?_
   refine GL.bin I0.mono rfl ?_
   refine GL.pick I0.mono rfl (by conv => lhs; whnf) ?_
   refine GL.move I0.mono (by conv => lhs; whnf) ?_
   refine GL.splitAt 15 rfl (fun h15 => ?_) (fun h15 => ?_)
   ·rw [h15]
    replace h15 := of_decide_eq_true h15
    refine GL.guardT rfl ?_
    refine GL.fieldAddrF I0.mono (o := 2) rfl rfl (by conv => lhs; whnf) ?_
    refine GL.guardT rfl ?_
    refine GL.loadF I0.mono rfl rfl (by rfl) rfl ?_
    refine GL.guardT rfl ?_
    refine GL.fieldAddr I0.mono (o := 0) rfl rfl rfl rfl (by conv => lhs; whnf) ?_
    refine GL.guardT rfl ?_
    refine GL.load I0.mono rfl rfl rfl rfl (by simp) rfl rfl ?_
    refine GL.guardT rfl ?_
    refine GL.indexAddrF I0.mono (sz := 1) rfl rfl rfl rfl (by omega) (by (rw [em_len]; omega)) (by intro e he; obtain ⟨a, -, rfl⟩ := List.mem_map.1 he; rfl) (by rfl) ?_
    refine GL.guardT rfl ?_
    refine GL.loadF I0.mono rfl rfl (by exact em_get (by omega)) rfl ?_
    refine GL.guardT rfl ?_
    refine GL.bin I0.mono rfl ?_
    refine GL.pick I0.mono rfl (by conv => lhs; whnf) ?_
    refine GL.assign I0.mono (by conv => lhs; whnf) ?_
    refine GL.doneF ?_
    refine goOn ?_
    refine Wp.retI ?_
    refine RetX.ret ?_
    refine ⟨_, _, _, _, .cons (.tmp rfl) .nil, .frz (.pure rfl), List.nodup_nil, by simp, ?_⟩
    show LV.bool _ = LV.bool _
    congr 1
    unfold icedB
    (rw [decide_eq_true (by omega : 0 ≤ t.car), decide_eq_true (by omega : t.car < p.ice.length)]; simp; rfl)
   ·rw [h15]
    replace h15 := of_decide_eq_false h15
    refine GL.guardF rfl ?_
    refine GL.guardF rfl ?_
    refine GL.guardF rfl ?_
    refine GL.guardF rfl ?_
    refine GL.guardF rfl ?_
    refine GL.guardF rfl ?_
    refine GL.guardF rfl ?_
    refine GL.pick I0.mono rfl (by conv => lhs; whnf) ?_
    refine GL.assign I0.mono (by conv => lhs; whnf) ?_
    refine GL.doneF ?_
    refine goOn ?_
    refine Wp.retI ?_
    refine RetX.ret ?_
    refine ⟨_, _, _, _, .cons (.tmp rfl) .nil, .frz (.pure rfl), List.nodup_nil, by simp, ?_⟩
    show LV.bool _ = LV.bool _
    congr 1
    unfold icedB
    (rw [decide_eq_true (by omega : 0 ≤ t.car), decide_eq_false (by omega : ¬ t.car < p.ice.length)]; rfl)
  ·rw [h7]
   replace h7 := of_decide_eq_false h7
   refine GL.guardF rfl ?_
   refine GL.guardF rfl ?_
   refine GL.guardF rfl ?_
   refine GL.guardF rfl ?_
   refine GL.guardF rfl ?_
   refine GL.guardF rfl ?_
   refine GL.pick I0.mono rfl (by conv => lhs; whnf) ?_
   refine GL.move I0.mono (by conv => lhs; whnf) ?_
   refine GL.guardF rfl ?_
   refine GL.guardF rfl ?_
   refine GL.guardF rfl ?_
   refine GL.guardF rfl ?_
   refine GL.guardF rfl ?_
   refine GL.guardF rfl ?_
   refine GL.guardF rfl ?_
   refine GL.pick I0.mono rfl (by conv => lhs; whnf) ?_
   refine GL.assign I0.mono (by conv => lhs; whnf) ?_
   refine GL.doneF ?_
   refine goOn ?_
   refine Wp.retI ?_
   refine RetX.ret ?_
   refine ⟨_, _, _, _, .cons (.tmp rfl) .nil, .frz (.pure rfl), List.nodup_nil, by simp, ?_⟩
   show LV.bool _ = LV.bool _
   congr 1
   unfold icedB
   (rw [decide_eq_false (by omega : ¬ 0 ≤ t.car)]; rfl)

set_option maxRecDepth 100000 in
set_option maxHeartbeats 4000000 in
theorem iced_ok (p : Plan) (hp : OkP p) (d : Delta) (hd : d.turns.length ≤ 1000000) : CallsV Try.prog 82 [.agg (kp p), .agg (kd d)] (.bool (d.turns.any (icedB p))) := by
  refine CallsR.intro (I0.sound _) mix Try.func82 rfl rfl (by simp [Try.f82]) (by kernel_rfl) (nb := 0) ?_
  unfold Try.f82
  refine Wp.seqI ?_
  refine Wp.regI I0.mono ?_
  refine GL.box I0.mono (by conv => lhs; whnf) rfl (n := 7) rfl rfl ?_
  intro g2
  refine GL.box I0.mono (by conv => lhs; whnf) rfl (n := 3) rfl rfl ?_
  intro g3
  refine GL.assign I0.mono (by conv => lhs; whnf) ?_
  refine GL.doneF ?_
  refine goOn ?_
  refine Wp.seqI ?_
  refine Wp.regI I0.mono ?_
  refine GL.fieldAddr I0.mono (o := 0) rfl rfl rfl rfl (by conv => lhs; whnf) ?_
  refine GL.load I0.mono rfl rfl rfl rfl (by simp) rfl rfl ?_
  refine GL.makeFunc I0.mono rfl ?_
  refine GL.callFl I0.mono rfl (Frz.aggc (Frz.pure rfl) (Frz.aggc (Frz.fn (Frz.aggc (Frz.ref rfl rfl rfl rfl (Frz.pures rfl)) Frz.aggn)) Frz.aggn)) (contT_ok d.turns (by omega) 128 [.fad [kp p] 0 0] rfl (icedB p) fun t _ => icedB_ok p hp t) (.sca rfl) rfl rfl ?_
  refine GL.assign I0.mono (by conv => lhs; whnf) ?_
  refine GL.doneF ?_
  refine goOn ?_
  refine Wp.retI ?_
  refine RetX.ret ?_
  refine ⟨_, _, _, _, .cons (.tmp rfl) .nil, .frz (.pure rfl), List.nodup_nil, by simp, ?_⟩
  rfl

set_option maxRecDepth 100000 in
set_option maxHeartbeats 4000000 in
theorem takenB_ok (h : Hold) (w : Int) : CallsV Try.prog 130 [.agg (kh h), .fad [[.int .i64 w]] 0 0] (.bool (other h.before w)) := by
  refine CallsR.intro (I0.sound _) mix Try.func130 rfl rfl (by simp [Try.f130]) (by kernel_rfl) (nb := 0) ?_
  unfold Try.f130
  refine Wp.seqI ?_
  refine Wp.regI I0.mono ?_
  refine GL.box I0.mono (by conv => lhs; whnf) rfl (n := 3) rfl rfl ?_
  intro g2
  refine GL.assign I0.mono (by conv => lhs; whnf) ?_
  refine GL.doneF ?_
  refine goOn ?_
  refine Wp.seqI ?_
  refine Wp.regI I0.mono ?_
  refine GL.fieldAddr I0.mono (o := 1) rfl rfl rfl rfl (by conv => lhs; whnf) ?_
  refine GL.load I0.mono rfl rfl rfl rfl (by simp) rfl rfl ?_
  refine GL.loadF I0.mono rfl rfl rfl rfl ?_
  refine GL.call0 I0.mono rfl (Frz.aggc (by exact Frz.pure rfl) (Frz.aggc (by exact Frz.pure rfl) (Frz.aggn))) (other_ok _ _) rfl rfl (fun _ => rfl) ?_
  refine GL.assign I0.mono (by conv => lhs; whnf) ?_
  refine GL.doneF ?_
  refine goOn ?_
  refine Wp.retI ?_
  refine RetX.ret ?_
  refine ⟨_, _, _, _, .cons (.tmp rfl) .nil, .frz (.pure rfl), List.nodup_nil, by simp, ?_⟩
  rfl

set_option maxRecDepth 100000 in
set_option maxHeartbeats 4000000 in
theorem taken_ok (l : List Hold) (hl : l.length ≤ 1000000) (w : Int) : CallsV Try.prog 83 [.sl (em kh l), .int .i64 w] (.bool (l.any fun h => other h.before w)) := by
  refine CallsR.intro (I0.sound _) mix Try.func83 rfl rfl (by simp [Try.f83]) (by kernel_rfl) (nb := 0) ?_
  unfold Try.f83
  refine Wp.seqI ?_
  refine Wp.regI I0.mono ?_
  refine GL.box I0.mono (by conv => lhs; whnf) rfl (n := 1) rfl rfl ?_
  intro g3
  refine GL.assign I0.mono (by conv => lhs; whnf) ?_
  refine GL.doneF ?_
  refine goOn ?_
  refine Wp.seqI ?_
  refine Wp.regI I0.mono ?_
  refine GL.move I0.mono (by conv => lhs; whnf) ?_
  refine GL.makeFunc I0.mono rfl ?_
  refine GL.callFl I0.mono rfl (Frz.aggc (Frz.pure rfl) (Frz.aggc (Frz.fn (Frz.aggc (Frz.ref rfl rfl rfl rfl (Frz.pures rfl)) Frz.aggn)) Frz.aggn)) (contH_ok l (by omega) 130 [.fad [[.int .i64 w]] 0 0] rfl (fun h => other h.before w) fun h _ => takenB_ok h w) (.sca rfl) rfl rfl ?_
  refine GL.assign I0.mono (by conv => lhs; whnf) ?_
  refine GL.doneF ?_
  refine goOn ?_
  refine Wp.retI ?_
  refine RetX.ret ?_
  refine ⟨_, _, _, _, .cons (.tmp rfl) .nil, .frz (.pure rfl), List.nodup_nil, by simp, ?_⟩
  rfl

set_option maxRecDepth 100000 in
set_option maxHeartbeats 4000000 in
theorem release_ok (l : List Int) (hl : l.length ≤ 1000000) (who : Int) : CallsV Try.prog 85 [.sl (em ni l), .int .i64 who] (.slo 3 (em kh (releaseL l who))) := by
  refine CallsR.intro (I0.sound _) mix Try.func85 rfl rfl (by simp [Try.f85]) (by kernel_rfl) (nb := 0) ?_
  unfold Try.f85
  refine Wp.seqI ?_
  refine Wp.regI I0.mono ?_
  refine GL.assign I0.mono (by conv => lhs; whnf) ?_
  refine GL.doneF ?_
  refine goOn ?_
  refine Wp.seqI ?_
  refine Wp.regI I0.mono ?_
  refine GL.assign I0.mono (by conv => lhs; whnf) ?_
  refine GL.doneF ?_
  refine goWeak (Weak.nilSlot (j := 5) 700001 3 rfl) ?_
  refine Wp.seqI ?_
  refine Wp.seqI ?_
  refine Wp.regI I0.mono ?_
  refine GL.move I0.mono (by conv => lhs; whnf) ?_
  refine GL.lenF I0.mono rfl rfl (em_len _ _) ?_
  refine GL.move I0.mono (by conv => lhs; whnf) ?_
  refine GL.doneF ?_
  refine goOn ?_
  refine Wp.blockI ?_
  refine Wp.loopI I0.mono (α := Nat × Nat × List Hold) (fun ⟨i, g, r⟩ st => (i ≤ l.length ∧ r ++ relGo who (l.drop i) (i : Int) = releaseL l who ∧ r.length ≤ i) ∧ ∃ m0, st = ⟨(updS (updS (updS (updS (updS (fun _ => LV.undef) 1 (.int .i64 who)) 5 (.own 700001 g 0 r.length none)) 8 (.sl (em ni l))) 9 (.int .i64 (l.length : Int))) 10 (.int .i64 (i : Int))), effM m0 [(700001, ⟨g, false, .slc, 3, em kh r⟩)]⟩) (fun ⟨i, g, r⟩ => l.length - i) ⟨0, _, []⟩ ⟨_, (LessS.weak (LessS.upd (LessS.upd (LessS.upd (LessS.upd (LessS.upd (LessS.nil _) rfl) rfl) rfl) rfl) rfl) _), ⟨Nat.zero_le _, rfl, Nat.le_refl _⟩, _, (congrArg (St.mk _) (effM_eq (Has.cons rfl Has.nil)).symm)⟩ ?_
  rintro ⟨i, g, r⟩ _ ⟨⟨hi, hr, hrl⟩, m0, rfl⟩
  refine Wp.seqI ?_
  refine Wp.regI I0.mono ?_
  refine GL.bin I0.mono rfl ?_
  refine GL.doneF ?_
  refine goOn ?_
  refine Wp.seqI ?_
  refine Wp.condI rfl (fun h11 => ?_) (fun h11 => ?_)
  ·replace h11 := of_decide_eq_true h11
   refine Wp.skipI ?_
   refine goOn ?_
   refine Wp.seqI ?_
   refine Wp.blockI ?_
   refine Wp.seqI ?_
   refine Wp.regI I0.mono ?_
   refine GL.move I0.mono (by conv => lhs; whnf) ?_
   refine GL.indexAddrF I0.mono (sz := 1) rfl rfl rfl rfl (by omega) (by (rw [em_len]; omega)) (by intro e he; obtain ⟨a, -, rfl⟩ := List.mem_map.1 he; rfl) (by with_reducible exact Int.toNat_natCast _) ?_
   refine GL.loadF I0.mono rfl rfl (em_get (by omega)) rfl ?_
   refine GL.assign I0.mono (by conv => lhs; whnf) ?_
   refine GL.assign I0.mono (by conv => lhs; whnf) ?_
   refine GL.doneF ?_
   refine goOn ?_
   refine Wp.seqI ?_
   refine Wp.regI I0.mono ?_
   refine GL.move I0.mono (by conv => lhs; whnf) ?_
   refine GL.move I0.mono (by conv => lhs; whnf) ?_
   refine GL.bin I0.mono rfl ?_
   refine GL.move I0.mono (by conv => lhs; whnf) ?_
   refine GL.splitAt 18 rfl (fun h18 => ?_) (fun h18 => ?_)
   ·rw [h18]
    replace h18 := of_decide_eq_true h18
    refine GL.guardT rfl ?_
    refine GL.move I0.mono (by conv => lhs; whnf) ?_
    refine GL.guardT rfl ?_
    refine GL.bin I0.mono rfl ?_
    refine GL.pick I0.mono rfl (by conv => lhs; whnf) ?_
    refine GL.doneF ?_
    refine goOn ?_
    refine Wp.condI rfl (fun h21 => ?_) (fun h21 => ?_)
    ·replace h21 := bne_true h21
     refine Wp.regI I0.mono ?_
     refine GL.move I0.mono (by conv => lhs; whnf) ?_
     refine GL.move I0.mono (by conv => lhs; whnf) ?_
     refine GL.move I0.mono (by conv => lhs; whnf) ?_
     refine GL.buildS I0.mono (z := [LV.int .i64 0, LV.int .i64 0, LV.int .i64 0]) (cs := [_, _, _]) (n := 3) rfl rfl rfl (EvS.cons (by conv => lhs; whnf) (EvS.cons (by conv => lhs; whnf) (EvS.cons (by conv => lhs; whnf) (EvS.nil)))) rfl rfl ?_
     refine GL.buildSlice0 I0.mono (sz := 3) (z := [LV.int .i64 0, LV.int .i64 0, LV.int .i64 0]) (es := em kh [⟨(i : Int), who, -1⟩]) rfl rfl rfl rfl (by decide) (by decide) (by decide) (FrzP.cons (S := []) (T := []) (Frz.pures rfl) rfl (by decide) rfl (FrzP.nil)) rfl ?_
     intro g26
     refine GL.append1 I0.mono (f := kh) (v := ⟨(i : Int), who, -1⟩) (sz := 3) (z := [.int .i64 0, .int .i64 0, .int .i64 0]) rfl rfl rfl rfl rfl (by decide) (Nat.le_of_ble_eq_true rfl) rfl rfl rfl rfl rfl rfl rfl rfl rfl rfl rfl rfl rfl rfl rfl rfl (by omega) ?_
     refine GL.assign I0.mono (by conv => lhs; whnf) ?_
     refine GL.doneF ?_
     refine blockX.normal ?_
     refine goOn ?_
     refine Wp.regI I0.mono ?_
     refine GL.addR I0.mono rfl rfl (by omega) ?_
     refine GL.move I0.mono (by conv => lhs; whnf) ?_
     refine GL.doneF ?_
     first
     | refine ⟨⟨i + 1, _, r ++ [⟨(i : Int), who, -1⟩]⟩, (by dsimp only; omega), _, (LessS.weak (LessS.upd (LessS.upd (LessS.upd (LessS.upd (LessS.upd (LessS.nil _) rfl) (by rw [List.length_append]; rfl)) rfl) rfl) rfl) _), ⟨by omega, by rw [← rel_yes (by omega) (by simpa using h18) (by simpa using h21), hr], by simp; omega⟩, _, (congrArg (St.mk _) (effM_eq (Has.cons rfl Has.nil)).symm)⟩
     | refine ⟨⟨i + 1, _, r⟩, (by dsimp only; omega), _, (LessS.weak (LessS.upd (LessS.upd (LessS.upd (LessS.upd (LessS.upd (LessS.nil _) rfl) rfl) rfl) rfl) rfl) _), ⟨by omega, by rw [← rel_no (by omega) (by rintro ⟨e1, e2⟩; simp_all), hr], by omega⟩, _, (congrArg (St.mk _) (effM_eq (Has.cons rfl Has.nil)).symm)⟩
    ·replace h21 := bne_false h21
     refine Wp.skipI ?_
     refine blockX.normal ?_
     refine goOn ?_
     refine Wp.regI I0.mono ?_
     refine GL.addR I0.mono rfl rfl (by omega) ?_
     refine GL.move I0.mono (by conv => lhs; whnf) ?_
     refine GL.doneF ?_
     first
     | refine ⟨⟨i + 1, _, r ++ [⟨(i : Int), who, -1⟩]⟩, (by dsimp only; omega), _, (LessS.weak (LessS.upd (LessS.upd (LessS.upd (LessS.upd (LessS.upd (LessS.nil _) rfl) (by rw [List.length_append]; rfl)) rfl) rfl) rfl) _), ⟨by omega, by rw [← rel_yes (by omega) (by simpa using h18) (by simpa using h21), hr], by simp; omega⟩, _, (congrArg (St.mk _) (effM_eq (Has.cons rfl Has.nil)).symm)⟩
     | refine ⟨⟨i + 1, _, r⟩, (by dsimp only; omega), _, (LessS.weak (LessS.upd (LessS.upd (LessS.upd (LessS.upd (LessS.upd (LessS.nil _) rfl) rfl) rfl) rfl) rfl) _), ⟨by omega, by rw [← rel_no (by omega) (by rintro ⟨e1, e2⟩; simp_all), hr], by omega⟩, _, (congrArg (St.mk _) (effM_eq (Has.cons rfl Has.nil)).symm)⟩
   ·rw [h18]
    replace h18 := of_decide_eq_false h18
    refine GL.guardF rfl ?_
    refine GL.guardF rfl ?_
    refine GL.pick I0.mono rfl (by conv => lhs; whnf) ?_
    refine GL.doneF ?_
    refine goOn ?_
    refine Wp.condF rfl ?_
    refine Wp.skipI ?_
    refine blockX.normal ?_
    refine goOn ?_
    refine Wp.regI I0.mono ?_
    refine GL.addR I0.mono rfl rfl (by omega) ?_
    refine GL.move I0.mono (by conv => lhs; whnf) ?_
    refine GL.doneF ?_
    first
    | refine ⟨⟨i + 1, _, r ++ [⟨(i : Int), who, -1⟩]⟩, (by dsimp only; omega), _, (LessS.weak (LessS.upd (LessS.upd (LessS.upd (LessS.upd (LessS.upd (LessS.nil _) rfl) (by rw [List.length_append]; rfl)) rfl) rfl) rfl) _), ⟨by omega, by rw [← rel_yes (by omega) (by simpa using h18) (by simpa using h21), hr], by simp; omega⟩, _, (congrArg (St.mk _) (effM_eq (Has.cons rfl Has.nil)).symm)⟩
    | refine ⟨⟨i + 1, _, r⟩, (by dsimp only; omega), _, (LessS.weak (LessS.upd (LessS.upd (LessS.upd (LessS.upd (LessS.upd (LessS.nil _) rfl) rfl) rfl) rfl) rfl) _), ⟨by omega, by rw [← rel_no (by omega) (by rintro ⟨e1, e2⟩; simp_all), hr], by omega⟩, _, (congrArg (St.mk _) (effM_eq (Has.cons rfl Has.nil)).symm)⟩
  ·replace h11 := of_decide_eq_false h11
   refine Wp.exitI ?_
   refine thenX.exit ?_
   refine thenX.exit ?_
   refine blockX.out ?_
   refine goOn ?_
   refine Wp.seqI ?_
   refine Wp.regI I0.mono ?_
   refine GL.move I0.mono (by conv => lhs; whnf) ?_
   refine GL.assign I0.mono (by conv => lhs; whnf) ?_
   refine GL.doneF ?_
   refine goOn ?_
   refine Wp.retI ?_
   refine RetX.ret ?_
   have hx : r = releaseL l who := by rw [← hr, drop_all (by omega), relGo, List.append_nil]
   refine ⟨_, _, _, _, .cons (.tmp rfl) .nil, .slo rfl rfl rfl rfl (by rw [em_len]; simp), by simp, by simp, ?_⟩
   show LV.slo 3 (em kh r) = _
   rw [hx]

end Go.Proofs.Ytffnlhjdlhpmjaa
