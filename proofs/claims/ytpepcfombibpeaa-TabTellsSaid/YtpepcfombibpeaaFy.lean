/- The law of what is told of the tables, walked. -/
import Derived.Test.YtpepcfombibpeaaFg
import Derived.Test.YtpepcfombibpeaaFp
import Derived.Test.YtpepcfombibpeaaFv
import Derived.Test.YtpepcfombibpeaaFw
import Derived.Test.YtpepcfombibpeaaFx
import Derived.KernelRfl
set_option linter.unusedVariables false
set_option linter.unusedSimpArgs false
namespace Go.Proofs.Ytpepcfombibpeaa
open Go.Proofs Mv



theorem head_eq' (h : Head) : eqAgg Try.prog 65 (nh h) (nh h) = some true := by rw [head_eq]; simp
theorem tail_eq' (h : Tail) : eqAgg Try.prog 61 (nl h) (nl h) = some true := by rw [tail_eq]; simp
theorem rhead_eq' (h : Head) : eqAgg Try.prog 76 (nh h) (nh h) = some true := by
  have : eqAgg Try.prog 76 (nh h) (nh h) = some (decide (h = h)) := by
    rw [← head_dec]
    kernel_rfl
  rw [this]; simp
theorem rtail_eq' (h : Tail) : eqAgg Try.prog 77 (nl h) (nl h) = some true := by
  have : eqAgg Try.prog 77 (nl h) (nl h) = some (decide (h = h)) := by
    rw [← tail_dec]
    kernel_rfl
  rw [this]; simp
theorem tab_lens (i : Inst) (c : Int) (l : List Int) : (tails i c l).length = (heads i c l).length := by
  unfold tails heads
  split
  · rw [tailsK_len, headsK_len]
  · rfl
theorem heads_step (i : Inst) (c : Int) (l : List Int) {k : Nat} (hk : k < l.length) (h : k + 1 < (heads i c l).length) : extend i c ((heads i c l).getD k default) (l.getD k default) = (heads i c l).getD (k + 1) default := by
  by_cases q : isT i c 0 = true
  · rw [heads, if_pos q, headsK_get _ _ _ (by omega), headsK_get _ _ _ (by omega), headOf_take i c hk]
  · rw [heads, if_neg q] at h
    simp at h
theorem tails_step (i : Inst) (c : Int) (l : List Int) {k : Nat} (hk : k < l.length) (h : k + 1 < (heads i c l).length) : before i c (l.getD k default) ((tails i c l).getD (k + 1) default) = (tails i c l).getD k default := by
  by_cases q : isT i c 0 = true
  · rw [tails, if_pos q, tailsK_get _ _ _ (by omega), tailsK_get _ _ _ (by omega), if_neg (Nat.not_lt_zero _), if_neg (Nat.not_lt_zero _), tailOf_drop i c hk]
  · rw [heads, if_neg q] at h
    simp at h
theorem heads_short (i : Inst) (c : Int) (l : List Int) : (heads i c l).length ≤ l.length + 1 := by
  unfold heads
  split
  · rw [headsK_len]; exact Nat.le_refl _
  · simp

set_option maxRecDepth 100000 in
set_option maxHeartbeats 4000000 in
theorem tl_walk (z0 z1 : List Int) (n : Int) (I : Inst) (N : Nat) (hb : Sb I N) (hp : Sp I) (hsd : Sd I) (ht : Tb I) (hI : CallsV Try.prog 29 [.sl (em ni z0)] (ei I)) (r : List Int) (hr : CallsV Try.prog 30 [ei I, .sl (em ni z1)] (.sl (em ni r))) (hrl : r.length ≤ 14) : CallsV Try.prog 12 [.sl (em ni z0), .sl (em ni z1), .int .i64 n] (.bool true) := by
  refine CallsR.intro (I0.sound _) mix Try.func12 rfl rfl (by simp [Try.f12]) (by kernel_rfl) (nb := 0) ?_
  unfold Try.f12
  refine Wp.seqI ?_
  refine Wp.regI I0.mono ?_
  refine GL.assign I0.mono (by conv => lhs; whnf) ?_
  refine GL.doneF ?_
  refine goOn ?_
  refine Wp.seqI ?_
  refine Wp.regI I0.mono ?_
  refine GL.move I0.mono (by conv => lhs; whnf) ?_
  refine GL.call0 I0.mono rfl (Frz.aggc (by exact Frz.pure rfl) (Frz.aggn)) (hI) rfl rfl (fun _ => rfl) ?_
  refine GL.alloc I0.mono (cs := [LV.nils, LV.nils, LV.nils, LV.nils]) rfl rfl ?_
  intro g7
  refine GL.storeW I0.mono (n := 4) rfl rfl rfl rfl rfl rfl rfl (by conv => lhs; whnf) rfl rfl rfl ?_
  refine GL.doneF ?_
  refine goOn ?_
  refine Wp.merge I0.mono (fun st => ∃ c : Int, (True) ∧ ∃ m0, st = ⟨(updS (updS (updS (fun _ => LV.undef) 1 (.sl (em ni z1))) 2 (.int .i64 c)) 7 (.ref 448 g7 0 0)), effM m0 [(448, ⟨g7, false, .var, 4, [ic I]⟩)]⟩) ?_ ?_
  ·skip
   refine Wp.seqI ?_
   refine Wp.regI I0.mono ?_
   refine GL.move I0.mono (by conv => lhs; whnf) ?_
   refine GL.remR I0.mono rfl rfl (by decide) ?_
   refine GL.bin I0.mono rfl ?_
   refine GL.doneF ?_
   refine goOn ?_
   refine Wp.condI rfl (fun h20 => ?_) (fun h20 => ?_)
   ·replace h20 := bne_true h20
    refine Wp.regI I0.mono ?_
    refine GL.move I0.mono (by conv => lhs; whnf) ?_
    refine GL.fieldAddr I0.mono (o := 0) rfl rfl rfl rfl (by conv => lhs; whnf) ?_
    refine GL.load I0.mono rfl rfl rfl rfl (by simp) rfl rfl ?_
    refine GL.lenF I0.mono rfl rfl (em_len _ _) ?_
    have hcc := hb.sq.cars1
    refine GL.addR I0.mono rfl rfl (by omega) ?_
    refine GL.call0 I0.mono rfl (Frz.aggc (by exact Frz.pure rfl) (Frz.aggc (by exact Frz.pure rfl) (Frz.aggn))) (within_ok _ _ (by have := hb.sq.cars1; omega)) rfl rfl (fun _ => rfl) ?_
    refine GL.assign I0.mono (by conv => lhs; whnf) ?_
    refine GL.doneF ?_
    refine ⟨_, (LessS.weak (LessS.upd (LessS.upd (LessS.upd (LessS.nil _) rfl) rfl) rfl) _), _, trivial, _, (congrArg (St.mk _) (effM_eq (Has.cons rfl Has.nil)).symm)⟩
   ·replace h20 := bne_false h20
    refine Wp.skipI ?_
    refine ⟨_, (LessS.weak (LessS.upd (LessS.upd (LessS.upd (LessS.nil _) rfl) rfl) rfl) _), _, trivial, _, (congrArg (St.mk _) (effM_eq (Has.cons rfl Has.nil)).symm)⟩
  ·rintro _ ⟨c, -, m0, rfl⟩
   have hlen := tab_lens I c r
   have hle := heads_short I c r
   refine Wp.seqI ?_
   refine Wp.regI I0.mono ?_
   refine GL.loadW I0.mono (n := 4) rfl rfl rfl rfl (by simp) rfl rfl rfl ?_
   refine GL.move I0.mono (by conv => lhs; whnf) ?_
   refine GL.call0 I0.mono rfl (Frz.aggc (by exact Frz.pures rfl) (Frz.aggc (by exact Frz.pure rfl) (Frz.aggn))) (hr) rfl rfl (fun _ => rfl) ?_
   refine GL.assign I0.mono (by conv => lhs; whnf) ?_
   refine GL.doneF ?_
   refine goOn ?_
   refine Wp.seqI ?_
   refine Wp.regD ?_
   refine GL.loadW I0.mono (n := 4) rfl rfl rfl rfl (by simp) rfl rfl rfl ?_
   refine GL.move I0.mono (by conv => lhs; whnf) ?_
   refine GL.move I0.mono (by conv => lhs; whnf) ?_
   refine GL.call0 I0.mono rfl (Frz.aggc (by exact Frz.pures rfl) (Frz.aggc (by exact Frz.pure rfl) (Frz.aggc (by exact Frz.pure rfl) (Frz.aggn)))) (heads_ok I ht c r (by unfold Short; omega)) rfl rfl (fun _ => rfl) ?_
   refine GL.loadW I0.mono (n := 4) rfl rfl rfl rfl (by simp) rfl rfl rfl ?_
   refine GL.move I0.mono (by conv => lhs; whnf) ?_
   refine GL.move I0.mono (by conv => lhs; whnf) ?_
   refine GL.call0 I0.mono rfl (Frz.aggc (by exact Frz.pures rfl) (Frz.aggc (by exact Frz.pure rfl) (Frz.aggc (by exact Frz.pure rfl) (Frz.aggn)))) (tails_ok I ht c r (by unfold Short; omega)) rfl rfl (fun _ => rfl) ?_
   refine GL.assign I0.mono (by conv => lhs; whnf) ?_
   refine GL.assign I0.mono (by conv => lhs; whnf) ?_
   refine GL.doneT (by kernel_rfl) ?_
   refine goOn ?_
   refine Wp.seqI ?_
   refine Wp.regD ?_
   refine GL.loadW I0.mono (n := 4) rfl rfl rfl rfl (by simp) rfl rfl rfl ?_
   refine GL.move I0.mono (by conv => lhs; whnf) ?_
   refine GL.move I0.mono (by conv => lhs; whnf) ?_
   refine GL.call0 I0.mono rfl (Frz.aggc (by exact Frz.pures rfl) (Frz.aggc (by exact Frz.pure rfl) (Frz.aggc (by exact Frz.pure rfl) (Frz.aggn)))) (((rheads_ok I N hb hsd c r (by omega)).freeze rfl)) rfl rfl (fun _ => rfl) ?_
   refine GL.loadW I0.mono (n := 4) rfl rfl rfl rfl (by simp) rfl rfl rfl ?_
   refine GL.move I0.mono (by conv => lhs; whnf) ?_
   refine GL.move I0.mono (by conv => lhs; whnf) ?_
   refine GL.call0 I0.mono rfl (Frz.aggc (by exact Frz.pures rfl) (Frz.aggc (by exact Frz.pure rfl) (Frz.aggc (by exact Frz.pure rfl) (Frz.aggn)))) (((rtails_ok I N hb hp hsd c r (by omega)).freeze rfl)) rfl rfl (fun _ => rfl) ?_
   refine GL.assign I0.mono (by conv => lhs; whnf) ?_
   refine GL.assign I0.mono (by conv => lhs; whnf) ?_
   refine GL.doneT (by kernel_rfl) ?_
   refine goOn ?_
   refine Wp.seqI ?_
   refine Wp.seqI ?_
   refine Wp.regI I0.mono ?_
   refine GL.move I0.mono (by conv => lhs; whnf) ?_
   refine GL.lenF I0.mono rfl rfl (em_len _ _) ?_
   refine GL.move I0.mono (by conv => lhs; whnf) ?_
   refine GL.lenF I0.mono rfl rfl (em_len _ _) ?_
   refine GL.bin I0.mono rfl ?_
   refine GL.move I0.mono (by conv => lhs; whnf) ?_
   refine GL.splitAt 51 rfl (fun h51 => ?_) (fun h51 => ?_)
   ·rw [h51]
    replace h51 := bne_true h51
    exact absurd rfl h51
   ·rw [h51]
    replace h51 := bne_false h51
    refine GL.guardT rfl ?_
    refine GL.move I0.mono (by conv => lhs; whnf) ?_
    refine GL.guardT rfl ?_
    refine GL.lenF I0.mono rfl rfl (em_len _ _) ?_
    refine GL.guardT rfl ?_
    refine GL.move I0.mono (by conv => lhs; whnf) ?_
    refine GL.guardT rfl ?_
    refine GL.lenF I0.mono rfl rfl (em_len _ _) ?_
    refine GL.guardT rfl ?_
    refine GL.bin I0.mono rfl ?_
    refine GL.pick I0.mono rfl (by conv => lhs; whnf) ?_
    refine GL.doneF ?_
    refine goOn ?_
    refine Wp.condI rfl (fun h57 => ?_) (fun h57 => ?_)
    ·replace h57 := bne_true h57
     exact absurd rfl h57
    ·replace h57 := bne_false h57
     refine Wp.skipI ?_
     refine goOn ?_
     refine Wp.seqI ?_
     refine Wp.seqI ?_
     refine Wp.regI I0.mono ?_
     refine GL.move I0.mono (by conv => lhs; whnf) ?_
     refine GL.lenF I0.mono rfl rfl (em_len _ _) ?_
     refine GL.move I0.mono (by conv => lhs; whnf) ?_
     refine GL.doneF ?_
     refine goOn ?_
     refine Wp.blockI ?_
     refine Wp.loopI I0.mono (α := Nat) (fun k st => (k ≤ (heads I c r).length) ∧ ∃ m0, st = ⟨(updS (updS (updS (updS (updS (updS (updS (updS (updS (updS (fun _ => LV.undef) 2 (.int .i64 c)) 7 (.ref 448 g7 0 0)) 8 (.sl (em ni r))) 9 (.sl (em nh (heads I c r)))) 10 (.sl (em nl (tails I c r)))) 11 (.sl (em nh (heads I c r)))) 12 (.sl (em nl (tails I c r)))) 58 (.sl (em nh (heads I c r)))) 59 (.int .i64 ((heads I c r).length : Int))) 60 (.int .i64 (k : Int))), effM m0 [(448, ⟨g7, false, .var, 4, [ic I]⟩)]⟩) (fun k => (heads I c r).length - k) 0 ⟨_, (LessS.weak (LessS.upd (LessS.upd (LessS.upd (LessS.upd (LessS.upd (LessS.upd (LessS.upd (LessS.upd (LessS.upd (LessS.upd (LessS.nil _) rfl) rfl) rfl) rfl) rfl) rfl) rfl) rfl) rfl) rfl) _), (Nat.zero_le _), _, (congrArg (St.mk _) (effM_eq (Has.cons rfl Has.nil)).symm)⟩ ?_
     rintro k _ ⟨hi, m0, rfl⟩
     refine Wp.seqI ?_
     refine Wp.regI I0.mono ?_
     refine GL.bin I0.mono rfl ?_
     refine GL.doneF ?_
     refine goOn ?_
     refine Wp.seqI ?_
     refine Wp.condI rfl (fun h61 => ?_) (fun h61 => ?_)
     ·replace h61 := of_decide_eq_true h61
      refine Wp.skipI ?_
      refine goOn ?_
      refine Wp.seqI ?_
      refine Wp.blockI ?_
      refine Wp.seqI ?_
      refine Wp.regI I0.mono ?_
      refine GL.move I0.mono (by conv => lhs; whnf) ?_
      refine GL.assign I0.mono (by conv => lhs; whnf) ?_
      refine GL.doneF ?_
      refine goOn ?_
      refine Wp.seqI ?_
      refine Wp.regD ?_
      refine GL.move I0.mono (by conv => lhs; whnf) ?_
      refine GL.move I0.mono (by conv => lhs; whnf) ?_
      refine GL.indexAddrF I0.mono (sz := 7) rfl rfl rfl rfl (by omega) (by (rw [em_len]; omega)) (by intro e he; obtain ⟨a, -, rfl⟩ := List.mem_map.1 he; rfl) (by with_reducible exact Int.toNat_natCast _) ?_
      refine GL.loadFW I0.mono (n := 7) rfl rfl (em_get (by omega)) rfl rfl ?_
      refine GL.move I0.mono (by conv => lhs; whnf) ?_
      refine GL.move I0.mono (by conv => lhs; whnf) ?_
      refine GL.indexAddrF I0.mono (sz := 7) rfl rfl rfl rfl (by omega) (by (rw [em_len]; omega)) (by intro e he; obtain ⟨a, -, rfl⟩ := List.mem_map.1 he; rfl) (by with_reducible exact Int.toNat_natCast _) ?_
      refine GL.loadFW I0.mono (n := 7) rfl rfl (em_get (by omega)) rfl rfl ?_
      refine GL.neqA I0.mono rfl rfl (rhead_eq' _) ?_
      refine GL.move I0.mono (by conv => lhs; whnf) ?_
      refine GL.guardT rfl ?_
      refine GL.move I0.mono (by conv => lhs; whnf) ?_
      refine GL.guardT rfl ?_
      refine GL.move I0.mono (by conv => lhs; whnf) ?_
      refine GL.guardT rfl ?_
      refine GL.indexAddrF I0.mono (sz := 8) rfl rfl rfl rfl (by omega) (by (rw [em_len]; omega)) (by intro e he; obtain ⟨a, -, rfl⟩ := List.mem_map.1 he; rfl) (by with_reducible exact Int.toNat_natCast _) ?_
      refine GL.guardT rfl ?_
      refine GL.loadFW I0.mono (n := 8) rfl rfl (em_get (by omega)) rfl rfl ?_
      refine GL.guardT rfl ?_
      refine GL.move I0.mono (by conv => lhs; whnf) ?_
      refine GL.guardT rfl ?_
      refine GL.move I0.mono (by conv => lhs; whnf) ?_
      refine GL.guardT rfl ?_
      refine GL.indexAddrF I0.mono (sz := 8) rfl rfl rfl rfl (by omega) (by (rw [em_len]; omega)) (by intro e he; obtain ⟨a, -, rfl⟩ := List.mem_map.1 he; rfl) (by with_reducible exact Int.toNat_natCast _) ?_
      refine GL.guardT rfl ?_
      refine GL.loadFW I0.mono (n := 8) rfl rfl (em_get (by omega)) rfl rfl ?_
      refine GL.guardT rfl ?_
      refine GL.neqA I0.mono rfl rfl (rtail_eq' _) ?_
      refine GL.pick I0.mono rfl (by conv => lhs; whnf) ?_
      refine GL.doneT (by kernel_rfl) ?_
      refine goOn ?_
      refine Wp.condF rfl ?_
      refine Wp.skipI ?_
      refine blockX.normal ?_
      refine goOn ?_
      refine Wp.regI I0.mono ?_
      refine GL.addR I0.mono rfl rfl (by omega) ?_
      refine GL.move I0.mono (by conv => lhs; whnf) ?_
      refine GL.doneF ?_
      refine ⟨k + 1, (by dsimp only; omega), _, (LessS.weak (LessS.upd (LessS.upd (LessS.upd (LessS.upd (LessS.upd (LessS.upd (LessS.upd (LessS.upd (LessS.upd (LessS.upd (LessS.nil _) rfl) rfl) rfl) rfl) rfl) rfl) rfl) rfl) rfl) rfl) _), (by omega), _, (congrArg (St.mk _) (effM_eq (Has.cons rfl Has.nil)).symm)⟩
     ·replace h61 := of_decide_eq_false h61
      refine Wp.exitI ?_
      refine thenX.exit ?_
      refine thenX.exit ?_
      refine blockX.out ?_
      refine goOn ?_
      refine Wp.seqI ?_
      refine Wp.seqI ?_
      refine Wp.regD ?_
      refine GL.loadW I0.mono (n := 4) rfl rfl rfl rfl (by simp) rfl rfl rfl ?_
      refine GL.move I0.mono (by conv => lhs; whnf) ?_
      refine GL.call0 I0.mono rfl (Frz.aggc (by exact Frz.pures rfl) (Frz.aggc (by exact Frz.pure rfl) (Frz.aggn))) (begin_ok I ht.short c) rfl rfl (fun _ => rfl) ?_
      refine GL.loadW I0.mono (n := 4) rfl rfl rfl rfl (by simp) rfl rfl rfl ?_
      refine GL.move I0.mono (by conv => lhs; whnf) ?_
      refine GL.call0 I0.mono rfl (Frz.aggc (by exact Frz.pures rfl) (Frz.aggc (by exact Frz.pure rfl) (Frz.aggn))) (rbegin_ok I ht.short c) rfl rfl (fun _ => rfl) ?_
      refine GL.neqA I0.mono rfl rfl (rhead_eq' _) ?_
      refine GL.move I0.mono (by conv => lhs; whnf) ?_
      refine GL.guardT rfl ?_
      refine GL.loadW I0.mono (n := 4) rfl rfl rfl rfl (by simp) rfl rfl rfl ?_
      refine GL.guardT rfl ?_
      refine GL.move I0.mono (by conv => lhs; whnf) ?_
      refine GL.guardT rfl ?_
      refine GL.call0 I0.mono rfl (Frz.aggc (by exact Frz.pures rfl) (Frz.aggc (by exact Frz.pure rfl) (Frz.aggn))) (end_ok I ht.short c) rfl rfl (fun _ => rfl) ?_
      refine GL.guardT rfl ?_
      refine GL.loadW I0.mono (n := 4) rfl rfl rfl rfl (by simp) rfl rfl rfl ?_
      refine GL.guardT rfl ?_
      refine GL.move I0.mono (by conv => lhs; whnf) ?_
      refine GL.guardT rfl ?_
      refine GL.call0 I0.mono rfl (Frz.aggc (by exact Frz.pures rfl) (Frz.aggc (by exact Frz.pure rfl) (Frz.aggn))) (rend_ok I ht.short c) rfl rfl (fun _ => rfl) ?_
      refine GL.guardT rfl ?_
      refine GL.neqA I0.mono rfl rfl (rtail_eq' _) ?_
      refine GL.pick I0.mono rfl (by conv => lhs; whnf) ?_
      refine GL.doneT (by kernel_rfl) ?_
      refine goOn ?_
      refine Wp.condF rfl ?_
      refine Wp.skipI ?_
      refine goOn ?_
      refine Wp.seqI ?_
      refine Wp.seqI ?_
      refine Wp.regI I0.mono ?_
      refine GL.move I0.mono (by conv => lhs; whnf) ?_
      refine GL.lenF I0.mono rfl rfl (em_len _ _) ?_
      refine GL.move I0.mono (by conv => lhs; whnf) ?_
      refine GL.doneF ?_
      refine goOn ?_
      refine Wp.blockI ?_
      refine Wp.loopI I0.mono (α := Nat) (fun k st => (k ≤ r.length) ∧ ∃ m0, st = ⟨(updS (updS (updS (updS (updS (updS (updS (updS (updS (updS (fun _ => LV.undef) 2 (.int .i64 c)) 7 (.ref 448 g7 0 0)) 8 (.sl (em ni r))) 9 (.sl (em nh (heads I c r)))) 10 (.sl (em nl (tails I c r)))) 11 (.sl (em nh (heads I c r)))) 12 (.sl (em nl (tails I c r)))) 100 (.sl (em ni r))) 101 (.int .i64 (r.length : Int))) 102 (.int .i64 (k : Int))), effM m0 [(448, ⟨g7, false, .var, 4, [ic I]⟩)]⟩) (fun k => r.length - k) 0 ⟨_, (LessS.weak (LessS.upd (LessS.upd (LessS.upd (LessS.upd (LessS.upd (LessS.upd (LessS.upd (LessS.upd (LessS.upd (LessS.upd (LessS.nil _) rfl) rfl) rfl) rfl) rfl) rfl) rfl) rfl) rfl) rfl) _), (Nat.zero_le _), _, (congrArg (St.mk _) (effM_eq (Has.cons rfl Has.nil)).symm)⟩ ?_
      rintro k _ ⟨hi, m0, rfl⟩
      refine Wp.seqI ?_
      refine Wp.regI I0.mono ?_
      refine GL.bin I0.mono rfl ?_
      refine GL.doneF ?_
      refine goOn ?_
      refine Wp.seqI ?_
      refine Wp.condI rfl (fun h103 => ?_) (fun h103 => ?_)
      ·replace h103 := of_decide_eq_true h103
       refine Wp.skipI ?_
       refine goOn ?_
       refine Wp.seqI ?_
       refine Wp.blockI ?_
       refine Wp.seqI ?_
       refine Wp.regI I0.mono ?_
       refine GL.move I0.mono (by conv => lhs; whnf) ?_
       refine GL.indexAddrF I0.mono (sz := 1) rfl rfl rfl rfl (by omega) (by (rw [em_len]; omega)) (by intro e he; obtain ⟨a, -, rfl⟩ := List.mem_map.1 he; rfl) (by with_reducible exact Int.toNat_natCast _) ?_
       refine GL.loadF I0.mono rfl rfl (em_get (by omega)) rfl ?_
       refine GL.assign I0.mono (by conv => lhs; whnf) ?_
       refine GL.assign I0.mono (by conv => lhs; whnf) ?_
       refine GL.doneF ?_
       refine goOn ?_
       refine Wp.seqI ?_
       refine Wp.regD ?_
       refine GL.move I0.mono (by conv => lhs; whnf) ?_
       refine GL.addR I0.mono rfl rfl (by omega) ?_
       rw [show ((k : Int) + 1) = ((k + 1 : Nat) : Int) by omega]
       refine GL.move I0.mono (by conv => lhs; whnf) ?_
       refine GL.lenF I0.mono rfl rfl (em_len _ _) ?_
       refine GL.bin I0.mono rfl ?_
       refine GL.move I0.mono (by conv => lhs; whnf) ?_
       refine GL.splitAt 112 rfl (fun h112 => ?_) (fun h112 => ?_)
       ·rw [h112]
        replace h112 := of_decide_eq_true h112
        refine GL.guardT rfl ?_
        refine GL.loadW I0.mono (n := 4) rfl rfl rfl rfl (by simp) rfl rfl rfl ?_
        refine GL.guardT rfl ?_
        refine GL.move I0.mono (by conv => lhs; whnf) ?_
        refine GL.guardT rfl ?_
        refine GL.move I0.mono (by conv => lhs; whnf) ?_
        refine GL.guardT rfl ?_
        refine GL.move I0.mono (by conv => lhs; whnf) ?_
        refine GL.guardT rfl ?_
        refine GL.indexAddrF I0.mono (sz := 7) rfl rfl rfl rfl (by omega) (by (rw [em_len]; omega)) (by intro e he; obtain ⟨a, -, rfl⟩ := List.mem_map.1 he; rfl) (by with_reducible exact Int.toNat_natCast _) ?_
        refine GL.guardT rfl ?_
        refine GL.loadFW I0.mono (n := 7) rfl rfl (em_get (by omega)) rfl rfl ?_
        refine GL.guardT rfl ?_
        refine GL.move I0.mono (by conv => lhs; whnf) ?_
        refine GL.guardT rfl ?_
        refine GL.call0 I0.mono rfl (Frz.aggc (by exact Frz.pures rfl) (Frz.aggc (by exact Frz.pure rfl) (Frz.aggc (by exact Frz.pures rfl) (Frz.aggc (by exact Frz.pure rfl) (Frz.aggn))))) (extend_ok I ht c ((heads I c r).getD k default) (r.getD k default)) rfl rfl (fun _ => rfl) ?_
        rw [heads_step I c r (show k < r.length by omega) (by omega)]
        refine GL.guardT rfl ?_
        refine GL.move I0.mono (by conv => lhs; whnf) ?_
        refine GL.guardT rfl ?_
        refine GL.move I0.mono (by conv => lhs; whnf) ?_
        refine GL.guardT rfl ?_
        refine GL.addR I0.mono rfl rfl (by omega) ?_
        rw [show ((k : Int) + 1) = ((k + 1 : Nat) : Int) by omega]
        refine GL.guardT rfl ?_
        refine GL.indexAddrF I0.mono (sz := 7) rfl rfl rfl rfl (by omega) (by (rw [em_len]; omega)) (by intro e he; obtain ⟨a, -, rfl⟩ := List.mem_map.1 he; rfl) (by with_reducible exact Int.toNat_natCast _) ?_
        refine GL.guardT rfl ?_
        refine GL.loadFW I0.mono (n := 7) rfl rfl (em_get (by omega)) rfl rfl ?_
        refine GL.guardT rfl ?_
        refine GL.neqA I0.mono rfl rfl (head_eq' _) ?_
        refine GL.guardT rfl ?_
        refine GL.move I0.mono (by conv => lhs; whnf) ?_
        refine GL.guardT rfl ?_
        refine GL.loadW I0.mono (n := 4) rfl rfl rfl rfl (by simp) rfl rfl rfl ?_
        refine GL.guardT rfl ?_
        refine GL.move I0.mono (by conv => lhs; whnf) ?_
        refine GL.guardT rfl ?_
        refine GL.move I0.mono (by conv => lhs; whnf) ?_
        refine GL.guardT rfl ?_
        refine GL.move I0.mono (by conv => lhs; whnf) ?_
        refine GL.guardT rfl ?_
        refine GL.move I0.mono (by conv => lhs; whnf) ?_
        refine GL.guardT rfl ?_
        refine GL.addR I0.mono rfl rfl (by omega) ?_
        rw [show ((k : Int) + 1) = ((k + 1 : Nat) : Int) by omega]
        refine GL.guardT rfl ?_
        refine GL.indexAddrF I0.mono (sz := 8) rfl rfl rfl rfl (by omega) (by (rw [em_len]; omega)) (by intro e he; obtain ⟨a, -, rfl⟩ := List.mem_map.1 he; rfl) (by with_reducible exact Int.toNat_natCast _) ?_
        refine GL.guardT rfl ?_
        refine GL.loadFW I0.mono (n := 8) rfl rfl (em_get (by omega)) rfl rfl ?_
        refine GL.guardT rfl ?_
        refine GL.call0 I0.mono rfl (Frz.aggc (by exact Frz.pures rfl) (Frz.aggc (by exact Frz.pure rfl) (Frz.aggc (by exact Frz.pure rfl) (Frz.aggc (by exact Frz.pures rfl) (Frz.aggn))))) (before_ok I ht c (r.getD k default) ((tails I c r).getD (k + 1) default)) rfl rfl (fun _ => rfl) ?_
        rw [tails_step I c r (show k < r.length by omega) (by omega)]
        refine GL.guardT rfl ?_
        refine GL.move I0.mono (by conv => lhs; whnf) ?_
        refine GL.guardT rfl ?_
        refine GL.move I0.mono (by conv => lhs; whnf) ?_
        refine GL.guardT rfl ?_
        refine GL.indexAddrF I0.mono (sz := 8) rfl rfl rfl rfl (by omega) (by (rw [em_len]; omega)) (by intro e he; obtain ⟨a, -, rfl⟩ := List.mem_map.1 he; rfl) (by with_reducible exact Int.toNat_natCast _) ?_
        refine GL.guardT rfl ?_
        refine GL.loadFW I0.mono (n := 8) rfl rfl (em_get (by omega)) rfl rfl ?_
        refine GL.guardT rfl ?_
        refine GL.neqA I0.mono rfl rfl (tail_eq' _) ?_
        refine GL.guardT rfl ?_
        refine GL.pick I0.mono rfl (by conv => lhs; whnf) ?_
        refine GL.pick I0.mono rfl (by conv => lhs; whnf) ?_
        refine GL.doneT (by kernel_rfl) ?_
        refine goOn ?_
        refine Wp.condF rfl ?_
        refine Wp.skipI ?_
        refine blockX.normal ?_
        refine goOn ?_
        refine Wp.regI I0.mono ?_
        refine GL.addR I0.mono rfl rfl (by omega) ?_
        refine GL.move I0.mono (by conv => lhs; whnf) ?_
        refine GL.doneF ?_
        refine ⟨k + 1, (by dsimp only; omega), _, (LessS.weak (LessS.upd (LessS.upd (LessS.upd (LessS.upd (LessS.upd (LessS.upd (LessS.upd (LessS.upd (LessS.upd (LessS.upd (LessS.nil _) rfl) rfl) rfl) rfl) rfl) rfl) rfl) rfl) rfl) rfl) _), (by omega), _, (congrArg (St.mk _) (effM_eq (Has.cons rfl Has.nil)).symm)⟩
       ·rw [h112]
        replace h112 := of_decide_eq_false h112
        refine GL.guardF rfl ?_
        refine GL.guardF rfl ?_
        refine GL.guardF rfl ?_
        refine GL.guardF rfl ?_
        refine GL.guardF rfl ?_
        refine GL.guardF rfl ?_
        refine GL.guardF rfl ?_
        refine GL.guardF rfl ?_
        refine GL.guardF rfl ?_
        refine GL.guardF rfl ?_
        refine GL.guardF rfl ?_
        refine GL.guardF rfl ?_
        refine GL.guardF rfl ?_
        refine GL.guardF rfl ?_
        refine GL.guardF rfl ?_
        refine GL.guardF rfl ?_
        refine GL.guardF rfl ?_
        refine GL.guardF rfl ?_
        refine GL.guardF rfl ?_
        refine GL.guardF rfl ?_
        refine GL.guardF rfl ?_
        refine GL.guardF rfl ?_
        refine GL.guardF rfl ?_
        refine GL.guardF rfl ?_
        refine GL.guardF rfl ?_
        refine GL.guardF rfl ?_
        refine GL.guardF rfl ?_
        refine GL.guardF rfl ?_
        refine GL.guardF rfl ?_
        refine GL.guardF rfl ?_
        refine GL.pick I0.mono rfl (by conv => lhs; whnf) ?_
        refine GL.doneT (by kernel_rfl) ?_
        refine goOn ?_
        refine Wp.condF rfl ?_
        refine Wp.skipI ?_
        refine blockX.normal ?_
        refine goOn ?_
        refine Wp.regI I0.mono ?_
        refine GL.addR I0.mono rfl rfl (by omega) ?_
        refine GL.move I0.mono (by conv => lhs; whnf) ?_
        refine GL.doneF ?_
        refine ⟨k + 1, (by dsimp only; omega), _, (LessS.weak (LessS.upd (LessS.upd (LessS.upd (LessS.upd (LessS.upd (LessS.upd (LessS.upd (LessS.upd (LessS.upd (LessS.upd (LessS.nil _) rfl) rfl) rfl) rfl) rfl) rfl) rfl) rfl) rfl) rfl) _), (by omega), _, (congrArg (St.mk _) (effM_eq (Has.cons rfl Has.nil)).symm)⟩
      ·replace h103 := of_decide_eq_false h103
       refine Wp.exitI ?_
       refine thenX.exit ?_
       refine thenX.exit ?_
       refine blockX.out ?_
       refine goOn ?_
       refine Wp.seqI ?_
       refine Wp.regI I0.mono ?_
       refine GL.call0 I0.mono rfl (Frz.aggn) (wakes5_ok) rfl rfl (fun _ => rfl) ?_
       refine GL.assign I0.mono (by conv => lhs; whnf) ?_
       refine GL.doneF ?_
       refine goOn ?_
       refine Wp.retI ?_
       refine RetX.ret ?_
       refine ⟨_, _, _, _, .cons (.tmp rfl) .nil, .frz (.pure rfl), List.nodup_nil, by simp, ?_⟩
       rfl


theorem law_TabTells (z0 : List Int) (h0 : Ints z0) (z1 : List Int) (h1 : Ints z1) (n : Int) : CallsV Try.prog 12 [.sl (em ni z0), .sl (em ni z1), .int .i64 n] (.bool true) := by
  have hb := inst_sb z0
  have hsd := inst_sd z0
  exact tl_walk z0 z1 n (instOf z0) (nStops z0) hb (inst_sp z0) hsd (tb_inst hb hsd) (inst_ok z0 h0) (rowOf (instOf z0) z1) (row_ok _ hb.sq.short z1 h1) (row_short _ _)

end Go.Proofs.Ytpepcfombibpeaa
