/- The heads and the tails of a route, walked. -/
import Derived.Test.YtpepcfombibpeaaFo
import Derived.KernelRfl
set_option linter.unusedVariables false
set_option linter.unusedSimpArgs false
namespace Go.Proofs.Ytpepcfombibpeaa
open Go.Proofs Mv


set_option maxRecDepth 100000 in
set_option maxHeartbeats 4000000 in
theorem heads_own (i : Inst) (ht : Tb i) (c : Int) (l : List Int) (hl : Short l) : CallsV Try.prog 38 [ei i, .int .i64 c, .sl (em ni l)] (.slo 7 (em nh (heads i c l))) := by
  refine CallsR.intro (I0.sound _) mix Try.func38 rfl rfl (by simp [Try.f38]) (by kernel_rfl) (nb := 0) ?_
  unfold Try.f38
  refine Wp.seqI ?_
  refine Wp.regI I0.mono ?_
  refine GL.box I0.mono (by conv => lhs; whnf) rfl (n := 4) rfl rfl ?_
  intro g3
  refine GL.assign I0.mono (by conv => lhs; whnf) ?_
  refine GL.doneF ?_
  refine goOn ?_
  refine Wp.seqI ?_
  refine Wp.seqI ?_
  unfold Short at hl
  refine Wp.regI I0.mono ?_
  refine GL.loadW I0.mono (n := 4) rfl rfl rfl rfl (by simp) (by rfl) rfl rfl ?_
  refine GL.move I0.mono (by conv => lhs; whnf) ?_
  refine GL.call0 I0.mono rfl (Frz.aggc (by exact Frz.pures rfl) (Frz.aggc (by exact Frz.pure rfl) (Frz.aggc (by exact Frz.pure rfl) (Frz.aggn)))) (isT_ok i ht.short _ _) rfl rfl (fun _ => rfl) ?_
  refine GL.un I0.mono rfl ?_
  refine GL.doneF ?_
  refine goOn ?_
  refine Wp.condI rfl (fun h14 => ?_) (fun h14 => ?_)
  ·skip
   refine Wp.seqI ?_
   refine Wp.regI I0.mono ?_
   refine GL.assign I0.mono (by conv => lhs; whnf) ?_
   refine GL.doneF ?_
   refine goOn ?_
   refine Wp.retI ?_
   refine thenX.ret ?_
   refine RetX.ret ?_
   refine ⟨_, _, _, _, .cons (.tmp rfl) .nil, (by exact Exp.nils (sz := 7)), (by decide), by simp, ?_⟩
   first
   | (rw [heads, if_neg (by rw [nbf h14]; decide)]; rfl)
   | (rw [heads, if_pos (nbt h14)]; rfl)
  ·skip
   refine Wp.skipI ?_
   refine goOn ?_
   refine Wp.seqI ?_
   refine Wp.regI I0.mono ?_
   refine GL.loadW I0.mono (n := 4) rfl rfl rfl rfl (by simp) (by rfl) rfl rfl ?_
   refine GL.move I0.mono (by conv => lhs; whnf) ?_
   refine GL.call0 I0.mono rfl (Frz.aggc (by exact Frz.pures rfl) (Frz.aggc (by exact Frz.pure rfl) (Frz.aggn))) (begin_ok i ht.short _) rfl rfl (fun _ => rfl) ?_
   refine GL.alloc I0.mono (cs := [LV.bool false, LV.int .i64 0, LV.int .i64 0, LV.int .i64 0, LV.int .u32 0, LV.int .u32 0, LV.int .i64 0]) rfl rfl ?_
   intro g7
   refine GL.storeW I0.mono (n := 7) rfl rfl rfl rfl rfl rfl rfl (by conv => lhs; whnf) rfl rfl rfl ?_
   refine GL.doneF ?_
   refine goOn ?_
   refine Wp.seqI ?_
   refine Wp.regI I0.mono ?_
   refine GL.loadW I0.mono (n := 7) rfl rfl rfl rfl (by simp) (by rfl) rfl rfl ?_
   refine GL.buildSlice0 I0.mono (sz := 7) (z := [LV.bool false, LV.int .i64 0, LV.int .i64 0, LV.int .i64 0, LV.int .u32 0, LV.int .u32 0, LV.int .i64 0]) (es := em nh (headsK i c l 0)) rfl rfl rfl rfl (by decide) (by decide) (by decide) (FrzP.cons (S := []) (T := []) (Frz.pures rfl) rfl (by decide) rfl (FrzP.nil)) rfl ?_
   intro g19
   refine GL.assign I0.mono (by conv => lhs; whnf) ?_
   refine GL.doneF ?_
   refine goOn ?_
   refine Wp.seqI ?_
   refine Wp.seqI ?_
   refine Wp.regI I0.mono ?_
   refine GL.move I0.mono (by conv => lhs; whnf) ?_
   refine GL.lenF I0.mono rfl rfl (em_len _ _) ?_
   refine GL.move I0.mono (by conv => lhs; whnf) ?_
   refine GL.doneF ?_
   refine goOn ?_
   refine Wp.blockI ?_
   refine Wp.loopI I0.mono (α := Nat × Nat) (fun ⟨k, g⟩ st => (k ≤ l.length) ∧ ∃ m0, st = ⟨(updS (updS (updS (updS (updS (updS (updS (fun _ => LV.undef) 1 (.int .i64 c)) 3 (.ref 192 g3 0 0)) 7 (.ref 448 g7 0 0)) 8 (.own 1216 g 0 (k + 1) none)) 20 (.sl (em ni l))) 21 (.int .i64 (l.length : Int))) 22 (.int .i64 (k : Int))), effM m0 [(192, ⟨g3, false, .var, 4, [ic i]⟩), (448, ⟨g7, false, .var, 7, [nh (headOf i c (l.take k))]⟩), (1216, ⟨g, false, .slc, 7, em nh (headsK i c l k)⟩)]⟩) (fun ⟨k, g⟩ => l.length - k) ⟨0, _⟩ ⟨_, (LessS.weak (LessS.upd (LessS.upd (LessS.upd (LessS.upd (LessS.upd (LessS.upd (LessS.upd (LessS.nil _) rfl) rfl) rfl) rfl) rfl) rfl) rfl) _), (Nat.zero_le _), _, (congrArg (St.mk _) (effM_eq (Has.cons rfl (Has.cons rfl (Has.cons rfl Has.nil)))).symm)⟩ ?_
   rintro ⟨k, g⟩ _ ⟨hi, m0, rfl⟩
   refine Wp.seqI ?_
   refine Wp.regI I0.mono ?_
   refine GL.bin I0.mono rfl ?_
   refine GL.doneF ?_
   refine goOn ?_
   refine Wp.seqI ?_
   refine Wp.condI rfl (fun h23 => ?_) (fun h23 => ?_)
   ·replace h23 := of_decide_eq_true h23
    refine Wp.skipI ?_
    refine goOn ?_
    refine Wp.seqI ?_
    refine Wp.blockI ?_
    refine Wp.seqI ?_
    refine Wp.regI I0.mono ?_
    refine GL.indexAddrF I0.mono (sz := 1) rfl rfl rfl rfl (by omega) (by (rw [em_len]; omega)) (by intro e he; obtain ⟨a, -, rfl⟩ := List.mem_map.1 he; rfl) (by with_reducible exact Int.toNat_natCast _) ?_
    refine GL.loadF I0.mono rfl rfl (em_get (by omega)) rfl ?_
    refine GL.assign I0.mono (by conv => lhs; whnf) ?_
    refine GL.doneF ?_
    refine goOn ?_
    refine Wp.seqI ?_
    refine Wp.regI I0.mono ?_
    refine GL.loadW I0.mono (n := 4) rfl rfl rfl rfl (by simp) (by rfl) rfl rfl ?_
    refine GL.move I0.mono (by conv => lhs; whnf) ?_
    refine GL.loadW I0.mono (n := 7) rfl rfl rfl rfl (by simp) (by rfl) rfl rfl ?_
    refine GL.move I0.mono (by conv => lhs; whnf) ?_
    refine GL.call0 I0.mono rfl (Frz.aggc (by exact Frz.pures rfl) (Frz.aggc (by exact Frz.pure rfl) (Frz.aggc (by exact Frz.pures rfl) (Frz.aggc (by exact Frz.pure rfl) (Frz.aggn))))) (extend_ok i ht c (headOf i c (l.take k)) (l.getD k default)) rfl rfl (fun _ => rfl) ?_
    rw [← headOf_take i c (show k < l.length by omega)]
    refine GL.storeW I0.mono (n := 7) rfl rfl rfl rfl rfl rfl rfl (by conv => lhs; whnf) rfl rfl rfl ?_
    refine GL.doneF ?_
    refine goOn ?_
    refine Wp.regI I0.mono ?_
    refine GL.move I0.mono (by conv => lhs; whnf) ?_
    refine GL.loadW I0.mono (n := 7) rfl rfl rfl rfl (by simp) (by rfl) rfl rfl ?_
    refine GL.buildSlice0 I0.mono (sz := 7) (z := [LV.bool false, LV.int .i64 0, LV.int .i64 0, LV.int .i64 0, LV.int .u32 0, LV.int .u32 0, LV.int .i64 0]) (es := em nh [(headOf i c (l.take (k + 1)))]) rfl rfl rfl rfl (by decide) (by decide) (by decide) (FrzP.cons (S := []) (T := []) (Frz.pures rfl) rfl (by decide) rfl (FrzP.nil)) rfl ?_
    intro g33
    refine GL.append1 I0.mono (f := nh) (v := (headOf i c (l.take (k + 1)))) (sz := 7) (z := [.bool false, .int .i64 0, .int .i64 0, .int .i64 0, .int .u32 0, .int .u32 0, .int .i64 0]) rfl rfl rfl rfl rfl (by decide) (Nat.le_of_ble_eq_true rfl) rfl rfl rfl rfl rfl rfl rfl (headsK_len i c l k).symm rfl rfl rfl rfl rfl rfl rfl rfl (by omega) ?_
    rw [← headsK_succ]
    refine GL.assign I0.mono (by conv => lhs; whnf) ?_
    refine GL.doneF ?_
    refine blockX.normal ?_
    refine goOn ?_
    refine Wp.regI I0.mono ?_
    refine GL.addR I0.mono rfl rfl (by omega) ?_
    refine GL.move I0.mono (by conv => lhs; whnf) ?_
    refine GL.doneF ?_
    refine ⟨⟨k + 1, _⟩, (by dsimp only; omega), _, (LessS.weak (LessS.upd (LessS.upd (LessS.upd (LessS.upd (LessS.upd (LessS.upd (LessS.upd (LessS.nil _) rfl) rfl) rfl) rfl) rfl) rfl) rfl) _), (by omega), _, (congrArg (St.mk _) (effM_eq (Has.cons rfl (Has.cons rfl (Has.cons rfl Has.nil)))).symm)⟩
   ·replace h23 := of_decide_eq_false h23
    obtain rfl : k = l.length := by omega
    refine Wp.exitI ?_
    refine thenX.exit ?_
    refine thenX.exit ?_
    refine blockX.out ?_
    refine goOn ?_
    refine Wp.seqI ?_
    refine Wp.regI I0.mono ?_
    refine GL.move I0.mono (by conv => lhs; whnf) ?_
    refine GL.assign I0.mono (by conv => lhs; whnf) ?_
    refine GL.doneF ?_
    refine goOn ?_
    refine Wp.retI ?_
    refine RetX.ret ?_
    refine ⟨_, _, _, _, .cons (.tmp rfl) .nil, (by exact Exp.slo rfl rfl rfl rfl (by rw [em_len, headsK_len]; omega)), (by decide), by simp, ?_⟩
    first
    | (rw [heads, if_neg (by rw [nbf h14]; decide)]; rfl)
    | (rw [heads, if_pos (nbt h14)]; rfl)

set_option maxRecDepth 100000 in
set_option maxHeartbeats 4000000 in
theorem tails_own (i : Inst) (ht : Tb i) (c : Int) (l : List Int) (hl : Short l) : CallsV Try.prog 35 [ei i, .int .i64 c, .sl (em ni l)] (.slo 8 (em nl (tails i c l))) := by
  refine CallsR.intro (I0.sound _) mix Try.func35 rfl rfl (by simp [Try.f35]) (by kernel_rfl) (nb := 0) ?_
  unfold Try.f35
  refine Wp.seqI ?_
  refine Wp.regI I0.mono ?_
  refine GL.box I0.mono (by conv => lhs; whnf) rfl (n := 4) rfl rfl ?_
  intro g3
  refine GL.assign I0.mono (by conv => lhs; whnf) ?_
  refine GL.doneF ?_
  refine goOn ?_
  refine Wp.seqI ?_
  refine Wp.seqI ?_
  unfold Short at hl
  refine Wp.regI I0.mono ?_
  refine GL.loadW I0.mono (n := 4) rfl rfl rfl rfl (by simp) (by rfl) rfl rfl ?_
  refine GL.move I0.mono (by conv => lhs; whnf) ?_
  refine GL.call0 I0.mono rfl (Frz.aggc (by exact Frz.pures rfl) (Frz.aggc (by exact Frz.pure rfl) (Frz.aggc (by exact Frz.pure rfl) (Frz.aggn)))) (isT_ok i ht.short _ _) rfl rfl (fun _ => rfl) ?_
  refine GL.un I0.mono rfl ?_
  refine GL.doneF ?_
  refine goOn ?_
  refine Wp.condI rfl (fun h13 => ?_) (fun h13 => ?_)
  ·skip
   refine Wp.seqI ?_
   refine Wp.regI I0.mono ?_
   refine GL.assign I0.mono (by conv => lhs; whnf) ?_
   refine GL.doneF ?_
   refine goOn ?_
   refine Wp.retI ?_
   refine thenX.ret ?_
   refine RetX.ret ?_
   refine ⟨_, _, _, _, .cons (.tmp rfl) .nil, (by exact Exp.nils (sz := 8)), (by decide), by simp, ?_⟩
   first
   | (rw [tails, if_neg (by rw [nbf h13]; decide)]; rfl)
   | (rw [tails, if_pos (nbt h13)]; rfl)
  ·skip
   refine Wp.skipI ?_
   refine goOn ?_
   refine Wp.seqI ?_
   refine Wp.regI I0.mono ?_
   refine GL.move I0.mono (by conv => lhs; whnf) ?_
   refine GL.lenF I0.mono rfl rfl (em_len _ _) ?_
   refine GL.addR I0.mono rfl rfl (by omega) ?_
   refine GL.makeSlice I0.mono (j := l.length + 1) (sz := 8) (z := [.bool false, .int .i64 0, .int .i64 0, .int .i64 0, .int .i64 0, .int .u32 0, .int .u32 0, .int .i64 0]) rfl rfl rfl rfl (by decide) rfl rfl (by omega) (by omega) (Nat.le_of_ble_eq_true rfl) (by omega) ?_
   intro g17
   rw [show List.replicate (l.length + 1) (List.map pureC [.bool false, .int .i64 0, .int .i64 0, .int .i64 0, .int .i64 0, .int .u32 0, .int .u32 0, .int .i64 0]) = em nl (tailsK i c l (l.length + 1)) from by rw [tailsK_zero, em_replicate]; rfl]
   refine GL.assign I0.mono (by conv => lhs; whnf) ?_
   refine GL.doneF ?_
   refine goOn ?_
   refine Wp.seqI ?_
   refine Wp.regI I0.mono ?_
   refine GL.loadW I0.mono (n := 4) rfl rfl rfl rfl (by simp) (by rfl) rfl rfl ?_
   refine GL.move I0.mono (by conv => lhs; whnf) ?_
   refine GL.call0 I0.mono rfl (Frz.aggc (by exact Frz.pures rfl) (Frz.aggc (by exact Frz.pure rfl) (Frz.aggn))) (end_ok i ht.short c) rfl rfl (fun _ => rfl) ?_
   rw [show endT i c = tailOf i c (l.drop l.length) by rw [List.drop_length]; rfl]
   refine GL.alloc I0.mono (cs := [LV.bool false, LV.int .i64 0, LV.int .i64 0, LV.int .i64 0, LV.int .i64 0, LV.int .u32 0, LV.int .u32 0, LV.int .i64 0]) rfl rfl ?_
   intro g8
   refine GL.storeW I0.mono (n := 8) rfl rfl rfl rfl rfl rfl rfl (by conv => lhs; whnf) rfl rfl rfl ?_
   refine GL.doneF ?_
   refine goOn ?_
   refine Wp.seqI ?_
   refine Wp.regI I0.mono ?_
   refine GL.move I0.mono (by conv => lhs; whnf) ?_
   refine GL.move I0.mono (by conv => lhs; whnf) ?_
   refine GL.lenF I0.mono rfl rfl (em_len _ _) ?_
   refine GL.loadW I0.mono (n := 8) rfl rfl rfl rfl (by simp) (by rfl) rfl rfl ?_
   refine GL.indexAddr I0.mono (sz := 8) rfl rfl rfl rfl rfl rfl rfl rfl (by omega) (by omega) (by (conv => lhs; simp only [Nat.zero_add, Int.toNat_natCast])) ?_
   refine GL.storeS I0.mono (n := 8) (es' := em nl (tailsK i c l l.length)) rfl rfl rfl rfl rfl rfl (em_get (by rw [tailsK_len]; omega)) rfl rfl rfl rfl (Nat.le_of_ble_eq_true rfl) rfl ((em_set nl _ _ (tailOf i c (l.drop l.length))).trans (congrArg (em nl) (tailsK_set i c l (Nat.le_refl _)))) ?_
   refine GL.doneF ?_
   refine goOn ?_
   refine Wp.seqI ?_
   refine Wp.seqI ?_
   refine Wp.regI I0.mono ?_
   refine GL.move I0.mono (by conv => lhs; whnf) ?_
   refine GL.lenF I0.mono rfl rfl (em_len _ _) ?_
   refine GL.subR I0.mono rfl rfl (by omega) ?_
   refine GL.assign I0.mono (by conv => lhs; whnf) ?_
   refine GL.doneF ?_
   refine goOn ?_
   refine Wp.blockI ?_
   refine Wp.loopI I0.mono (α := Nat × Nat) (fun ⟨a, g⟩ st => (a ≤ l.length) ∧ ∃ m0, st = ⟨(updS (updS (updS (updS (updS (updS (fun _ => LV.undef) 1 (.int .i64 c)) 2 (.sl (em ni l))) 3 (.ref 192 g3 0 0)) 7 (.own 1088 g 0 (l.length + 1) none)) 8 (.ref 512 g8 0 0)) 9 (.int .i64 ((a : Int) - 1))), effM m0 [(192, ⟨g3, false, .var, 4, [ic i]⟩), (512, ⟨g8, false, .var, 8, [nl (tailOf i c (l.drop a))]⟩), (1088, ⟨g, false, .slc, 8, em nl (tailsK i c l a)⟩)]⟩) (fun ⟨a, g⟩ => a) ⟨l.length, _⟩ ⟨_, (LessS.weak (LessS.upd (LessS.upd (LessS.upd (LessS.upd (LessS.upd (LessS.upd (LessS.nil _) rfl) rfl) rfl) rfl) rfl) rfl) _), (Nat.le_refl _), _, (congrArg (St.mk _) (effM_eq (Has.cons rfl (Has.cons rfl (Has.cons rfl Has.nil)))).symm)⟩ ?_
   rintro ⟨a, g⟩ _ ⟨hi, m0, rfl⟩
   refine Wp.seqI ?_
   refine Wp.seqI ?_
   refine Wp.regI I0.mono ?_
   refine GL.move I0.mono (by conv => lhs; whnf) ?_
   refine GL.bin I0.mono rfl ?_
   refine GL.doneF ?_
   refine goOn ?_
   refine Wp.condI rfl (fun h30 => ?_) (fun h30 => ?_)
   ·replace h30 := of_decide_eq_true h30
    obtain ⟨b, rfl⟩ : ∃ b, a = b + 1 := ⟨a - 1, by omega⟩
    rw [show (((b + 1 : Nat) : Int) - 1) = (b : Int) by omega]
    refine Wp.skipI ?_
    refine goOn ?_
    refine Wp.seqI ?_
    refine Wp.blockI ?_
    refine Wp.seqI ?_
    refine Wp.regD ?_
    refine GL.loadW I0.mono (n := 4) rfl rfl rfl rfl (by simp) (by rfl) rfl rfl ?_
    refine GL.move I0.mono (by conv => lhs; whnf) ?_
    refine GL.move I0.mono (by conv => lhs; whnf) ?_
    refine GL.move I0.mono (by conv => lhs; whnf) ?_
    refine GL.indexAddrF I0.mono (sz := 1) rfl rfl rfl rfl (by omega) (by (rw [em_len]; omega)) (by intro e he; obtain ⟨a, -, rfl⟩ := List.mem_map.1 he; rfl) (by with_reducible exact Int.toNat_natCast _) ?_
    refine GL.loadF I0.mono rfl rfl (em_get (by omega)) rfl ?_
    refine GL.loadW I0.mono (n := 8) rfl rfl rfl rfl (by simp) (by rfl) rfl rfl ?_
    refine GL.call0 I0.mono rfl (Frz.aggc (by exact Frz.pures rfl) (Frz.aggc (by exact Frz.pure rfl) (Frz.aggc (by exact Frz.pure rfl) (Frz.aggc (by exact Frz.pures rfl) (Frz.aggn))))) (before_ok i ht c (l.getD b default) (tailOf i c (l.drop (b + 1)))) rfl rfl (fun _ => rfl) ?_
    rw [← tailOf_drop i c (show b < l.length by omega)]
    refine GL.storeW I0.mono (n := 8) rfl rfl rfl rfl rfl rfl rfl (by conv => lhs; whnf) rfl rfl rfl ?_
    refine GL.doneT (by kernel_rfl) ?_
    refine goOn ?_
    refine Wp.regI I0.mono ?_
    refine GL.move I0.mono (by conv => lhs; whnf) ?_
    refine GL.move I0.mono (by conv => lhs; whnf) ?_
    refine GL.loadW I0.mono (n := 8) rfl rfl rfl rfl (by simp) (by rfl) rfl rfl ?_
    refine GL.indexAddr I0.mono (sz := 8) rfl rfl rfl rfl rfl rfl rfl rfl (by omega) (by omega) (by (conv => lhs; simp only [Nat.zero_add, Int.toNat_natCast])) ?_
    refine GL.storeS I0.mono (n := 8) (es' := em nl (tailsK i c l b)) rfl rfl rfl rfl rfl rfl (em_get (by rw [tailsK_len]; omega)) rfl rfl rfl rfl (Nat.le_of_ble_eq_true rfl) rfl ((em_set nl _ _ (tailOf i c (l.drop b))).trans (congrArg (em nl) (tailsK_set i c l (show b ≤ l.length by omega)))) ?_
    refine GL.doneF ?_
    refine blockX.normal ?_
    refine goOn ?_
    refine Wp.regI I0.mono ?_
    refine GL.move I0.mono (by conv => lhs; whnf) ?_
    refine GL.subR I0.mono rfl rfl (by omega) ?_
    refine GL.assign I0.mono (by conv => lhs; whnf) ?_
    refine GL.doneF ?_
    refine ⟨⟨b, _⟩, (by dsimp only; omega), _, (LessS.weak (LessS.upd (LessS.upd (LessS.upd (LessS.upd (LessS.upd (LessS.upd (LessS.nil _) rfl) rfl) rfl) rfl) rfl) rfl) _), (by omega), _, (congrArg (St.mk _) (effM_eq (Has.cons rfl (Has.cons rfl (Has.cons rfl Has.nil)))).symm)⟩
   ·replace h30 := of_decide_eq_false h30
    obtain rfl : a = 0 := by omega
    refine Wp.exitI ?_
    refine thenX.exit ?_
    refine thenX.exit ?_
    refine blockX.out ?_
    refine goOn ?_
    refine Wp.seqI ?_
    refine Wp.regI I0.mono ?_
    refine GL.move I0.mono (by conv => lhs; whnf) ?_
    refine GL.assign I0.mono (by conv => lhs; whnf) ?_
    refine GL.doneF ?_
    refine goOn ?_
    refine Wp.retI ?_
    refine RetX.ret ?_
    refine ⟨_, _, _, _, .cons (.tmp rfl) .nil, (by exact Exp.slo rfl rfl rfl rfl (by rw [em_len, tailsK_len]; omega)), (by decide), by simp, ?_⟩
    first
    | (rw [tails, if_neg (by rw [nbf h13]; decide)]; rfl)
    | (rw [tails, if_pos (nbt h13)]; rfl)

theorem heads_ok (i : Inst) (ht : Tb i) (c : Int) (l : List Int) (hl : Short l) : CallsV Try.prog 38 [ei i, .int .i64 c, .sl (em ni l)] (.sl (em nh (heads i c l))) := (heads_own i ht c l hl).freeze rfl
theorem tails_ok (i : Inst) (ht : Tb i) (c : Int) (l : List Int) (hl : Short l) : CallsV Try.prog 35 [ei i, .int .i64 c, .sl (em ni l)] (.sl (em nl (tails i c l))) := (tails_own i ht c l hl).freeze rfl

end Go.Proofs.Ytpepcfombibpeaa
