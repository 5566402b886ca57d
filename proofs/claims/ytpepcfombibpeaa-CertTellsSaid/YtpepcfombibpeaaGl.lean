/- The law of what is claimed of a route, walked. -/
import Derived.Test.YtpepcfombibpeaaFg
import Derived.Test.YtpepcfombibpeaaFh
import Derived.Test.YtpepcfombibpeaaFk
import Derived.Test.YtpepcfombibpeaaGj
import Derived.KernelRfl
set_option linter.unusedVariables false
set_option linter.unusedSimpArgs false
namespace Go.Proofs.Ytpepcfombibpeaa
open Go.Proofs Mv



theorem w0 {b x : Bool} (h : b = false) : ((b && x) == false) = true := by rw [h]; rfl
theorem w1 {b p x : Bool} (h : p = false) : ((b && (p && x)) == false) = true := by rw [h]; cases b <;> rfl
theorem w2 {b p q x : Bool} (h : q = false) : ((b && (p && (q && x))) == false) = true := by rw [h]; cases b <;> cases p <;> rfl
theorem w3 {b p q x : Bool} (hb : b = true) (hp : p = true) (hq : q = true) : ((b && (p && (q && x))) == x) = true := by rw [hb, hp, hq]; cases x <;> rfl

set_option maxRecDepth 100000 in
set_option maxHeartbeats 4000000 in
theorem same_big (l l' : List Int) (hl : l.length < 9223372036854775808) (hl' : Short l') : CallsV Try.prog 25 [.sl (em ni l), .sl (em ni l')] (.bool (decide (l = l'))) := by
  refine CallsR.intro (I0.sound _) mix Try.func25 rfl rfl (by simp [Try.f25]) (by kernel_rfl) (nb := 0) ?_
  unfold Try.f25
  refine Wp.seqI ?_
  refine Wp.regI I0.mono ?_
  refine GL.assign I0.mono (by conv => lhs; whnf) ?_
  refine GL.doneF ?_
  refine goOn ?_
  refine Wp.seqI ?_
  refine Wp.seqI ?_
  refine Wp.regI I0.mono ?_
  refine GL.move I0.mono (by conv => lhs; whnf) ?_
  refine GL.lenF I0.mono rfl rfl (em_len _ _) ?_
  refine GL.move I0.mono (by conv => lhs; whnf) ?_
  refine GL.lenF I0.mono rfl rfl (em_len _ _) ?_
  refine GL.bin I0.mono rfl ?_
  refine GL.doneF ?_
  refine goOn ?_
  refine Wp.condI rfl (fun h10 => ?_) (fun h10 => ?_)
  ·replace h10 := bne_true h10
   unfold Short at hl'
   refine Wp.seqI ?_
   refine Wp.regI I0.mono ?_
   refine GL.assign I0.mono (by conv => lhs; whnf) ?_
   refine GL.doneF ?_
   refine goOn ?_
   refine Wp.retI ?_
   refine thenX.ret ?_
   refine RetX.ret ?_
   refine ⟨_, _, _, _, .cons (.tmp rfl) .nil, .frz (.pure rfl), List.nodup_nil, by simp, ?_⟩
   show LV.bool _ = LV.bool _
   congr 1
   symm
   (refine decide_eq_false (fun h => ?_); subst h; simp at h10; done)
  ·replace h10 := bne_false h10
   unfold Short at hl'
   have h10e : l.length = l'.length := by first | omega | (simp at h10; omega)
   refine Wp.skipI ?_
   refine goOn ?_
   refine Wp.seqI ?_
   refine Wp.seqI ?_
   refine Wp.regI I0.mono ?_
   refine GL.assign I0.mono (by conv => lhs; whnf) ?_
   refine GL.doneF ?_
   refine goOn ?_
   refine Wp.blockI ?_
   refine Wp.loopI I0.mono (α := Nat) (fun i st => (i ≤ l.length ∧ ∀ j, j < i → l.getD j default = l'.getD j default) ∧ ∃ m0, st = ⟨(updS (updS (updS (fun _ => LV.undef) 0 (.sl (em ni l))) 1 (.sl (em ni l'))) 5 (.int .i64 (i : Int))), effM m0 []⟩) (fun i => l.length - i) 0 ⟨_, (LessS.weak (LessS.upd (LessS.upd (LessS.upd (LessS.nil _) rfl) rfl) rfl) _), ⟨by omega, fun j h => by omega⟩, _, (congrArg (St.mk _) (effM_eq Has.nil).symm)⟩ ?_
   rintro i _ ⟨⟨hi, hA⟩, m0, rfl⟩
   refine Wp.seqI ?_
   refine Wp.seqI ?_
   refine Wp.regI I0.mono ?_
   refine GL.move I0.mono (by conv => lhs; whnf) ?_
   refine GL.move I0.mono (by conv => lhs; whnf) ?_
   refine GL.lenF I0.mono rfl rfl (em_len _ _) ?_
   refine GL.bin I0.mono rfl ?_
   refine GL.doneF ?_
   refine goOn ?_
   refine Wp.condI rfl (fun h14 => ?_) (fun h14 => ?_)
   ·replace h14 := of_decide_eq_true h14
    refine Wp.skipI ?_
    refine goOn ?_
    refine Wp.seqI ?_
    refine Wp.blockI ?_
    refine Wp.seqI ?_
    refine Wp.regD ?_
    refine GL.move I0.mono (by conv => lhs; whnf) ?_
    refine GL.move I0.mono (by conv => lhs; whnf) ?_
    refine GL.indexAddrF I0.mono (sz := 1) rfl rfl rfl rfl (by omega) (by (rw [em_len]; omega)) (by intro e he; obtain ⟨a, -, rfl⟩ := List.mem_map.1 he; rfl) (by with_reducible exact Int.toNat_natCast _) ?_
    refine GL.loadF I0.mono rfl rfl (em_get (by omega)) rfl ?_
    refine GL.move I0.mono (by conv => lhs; whnf) ?_
    refine GL.move I0.mono (by conv => lhs; whnf) ?_
    refine GL.indexAddrF I0.mono (sz := 1) rfl rfl rfl rfl (by omega) (by (rw [em_len]; omega)) (by intro e he; obtain ⟨a, -, rfl⟩ := List.mem_map.1 he; rfl) (by with_reducible exact Int.toNat_natCast _) ?_
    refine GL.loadF I0.mono rfl rfl (em_get (by omega)) rfl ?_
    refine GL.bin I0.mono rfl ?_
    refine GL.doneT (by kernel_rfl) ?_
    refine goOn ?_
    refine Wp.condI rfl (fun h25 => ?_) (fun h25 => ?_)
    ·replace h25 := bne_true h25
     refine Wp.seqI ?_
     refine Wp.regI I0.mono ?_
     refine GL.assign I0.mono (by conv => lhs; whnf) ?_
     refine GL.doneF ?_
     refine goOn ?_
     refine Wp.retI ?_
     refine blockX.ret ?_
     refine thenX.ret ?_
     refine thenX.ret ?_
     refine blockX.ret ?_
     refine thenX.ret ?_
     refine RetX.ret ?_
     refine ⟨_, _, _, _, .cons (.tmp rfl) .nil, .frz (.pure rfl), List.nodup_nil, by simp, ?_⟩
     show LV.bool _ = LV.bool _
     congr 1
     symm
     (refine decide_eq_false (fun h => ?_); subst h; simp at h25; done)
    ·replace h25 := bne_false h25
     refine Wp.skipI ?_
     refine blockX.normal ?_
     refine goOn ?_
     refine Wp.regI I0.mono ?_
     refine GL.move I0.mono (by conv => lhs; whnf) ?_
     refine GL.addR I0.mono rfl rfl (by omega) ?_
     refine GL.assign I0.mono (by conv => lhs; whnf) ?_
     refine GL.doneF ?_
     refine ⟨i + 1, (by dsimp only; omega), _, (LessS.weak (LessS.upd (LessS.upd (LessS.upd (LessS.nil _) rfl) rfl) rfl) _), ⟨by omega, fun j h => by
           by_cases hj : j = i
           · subst hj; simpa using h25
           · exact hA j (by omega)⟩, _, (congrArg (St.mk _) (effM_eq Has.nil).symm)⟩
   ·replace h14 := of_decide_eq_false h14
    refine Wp.exitI ?_
    refine thenX.exit ?_
    refine thenX.exit ?_
    refine blockX.out ?_
    refine goOn ?_
    refine Wp.seqI ?_
    refine Wp.regI I0.mono ?_
    refine GL.assign I0.mono (by conv => lhs; whnf) ?_
    refine GL.doneF ?_
    refine goOn ?_
    refine Wp.retI ?_
    refine RetX.ret ?_
    refine ⟨_, _, _, _, .cons (.tmp rfl) .nil, .frz (.pure rfl), List.nodup_nil, by simp, ?_⟩
    show LV.bool _ = LV.bool _
    congr 1
    symm
    (exact decide_eq_true (same_ext h10e fun j hj => hA j (by omega)))

set_option maxRecDepth 100000 in
set_option maxHeartbeats 4000000 in
theorem co_walk (z0 z1 A0 L0 : List Int) (car0 cost0 : Int) (near : Bool) (I : Inst) (hs : I.Short) (hcn : I.cars.length ≤ 3) (hI : CallsV Try.prog 29 [.sl (em ni z0)] (ei I)) (r : List Int) (hr : CallsV Try.prog 30 [ei I, .sl (em ni z1)] (.sl (em ni r))) (hrl : r.length ≤ 14) (c : Int) (hc : within car0 ((I.cars.length : Int) + 1) = c) (T : Trip) (b : Bool) (he : CallsV Try.prog 32 [ei I, .int .i64 c, .sl (em ni r)] (.tup [.agg (nt T), .bool b])) (hT0 : T.t0.length ≤ 14) (hT1 : T.t1.length ≤ 14) (hA : A0.length < 9223372036854775808) (hL : L0.length < 9223372036854775808) (hR : ∀ (A L : List Int) (x : Int), A.length < 9223372036854775808 → L.length < 9223372036854775808 → CallsV Try.prog 59 [ei I, ec ⟨c, r, A, L, x⟩] (.bool (b && (decide (A = T.t0) && (decide (L = T.t1) && (x == T.t2)))))) : CallsV Try.prog 21 [.sl (em ni z0), .sl (em ni z1), .sl (em ni A0), .sl (em ni L0), .int .i64 car0, .int .i64 cost0, .bool near] (.bool true) := by
  refine CallsR.intro (I0.sound _) mix Try.func21 rfl rfl (by simp [Try.f21]) (by kernel_rfl) (nb := 0) ?_
  unfold Try.f21
  refine Wp.seqI ?_
  refine Wp.regI I0.mono ?_
  refine GL.assign I0.mono (by conv => lhs; whnf) ?_
  refine GL.doneF ?_
  refine goOn ?_
  refine Wp.seqI ?_
  refine Wp.regI I0.mono ?_
  refine GL.move I0.mono (by conv => lhs; whnf) ?_
  refine GL.call0 I0.mono rfl (Frz.aggc (by exact Frz.pure rfl) (Frz.aggn)) (hI) rfl rfl (fun _ => rfl) ?_
  refine GL.alloc I0.mono (cs := [LV.nils, LV.nils, LV.nils, LV.nils]) rfl rfl ?_
  intro g15
  refine GL.storeW I0.mono (n := 4) rfl rfl rfl rfl rfl rfl rfl (by conv => lhs; whnf) rfl rfl rfl ?_
  refine GL.doneF ?_
  refine goOn ?_
  refine Wp.seqI ?_
  refine Wp.regI I0.mono ?_
  refine GL.move I0.mono (by conv => lhs; whnf) ?_
  refine GL.fieldAddr I0.mono (o := 0) rfl rfl rfl rfl (by conv => lhs; whnf) ?_
  refine GL.load I0.mono rfl rfl rfl rfl (by simp) (by rfl) rfl ?_
  refine GL.lenF I0.mono rfl rfl (em_len _ _) ?_
  refine GL.addR I0.mono rfl rfl (by omega) ?_
  refine GL.call0 I0.mono rfl (Frz.aggc (by exact Frz.pure rfl) (Frz.aggc (by exact Frz.pure rfl) (Frz.aggn))) ((hc ▸ within_ok _ _ (by omega))) rfl rfl (fun _ => rfl) ?_
  refine GL.assign I0.mono (by conv => lhs; whnf) ?_
  refine GL.doneF ?_
  refine goOn ?_
  refine Wp.seqI ?_
  refine Wp.regI I0.mono ?_
  refine GL.loadW I0.mono (n := 4) rfl rfl rfl rfl (by simp) (by rfl) rfl rfl ?_
  refine GL.move I0.mono (by conv => lhs; whnf) ?_
  refine GL.call0 I0.mono rfl (Frz.aggc (by exact Frz.pures rfl) (Frz.aggc (by exact Frz.pure rfl) (Frz.aggn))) (hr) rfl rfl (fun _ => rfl) ?_
  refine GL.assign I0.mono (by conv => lhs; whnf) ?_
  refine GL.doneF ?_
  refine goOn ?_
  refine Wp.seqI ?_
  refine Wp.regI I0.mono ?_
  refine GL.loadW I0.mono (n := 4) rfl rfl rfl rfl (by simp) (by rfl) rfl rfl ?_
  refine GL.move I0.mono (by conv => lhs; whnf) ?_
  refine GL.move I0.mono (by conv => lhs; whnf) ?_
  refine GL.call0 I0.mono rfl (Frz.aggc (by exact Frz.pures rfl) (Frz.aggc (by exact Frz.pure rfl) (Frz.aggc (by exact Frz.pure rfl) (Frz.aggn)))) (he) rfl rfl (fun _ => rfl) ?_
  refine GL.move I0.mono (by conv => lhs; whnf) ?_
  refine GL.extract I0.mono rfl rfl ?_
  refine GL.extract I0.mono rfl rfl ?_
  refine GL.alloc I0.mono (cs := [LV.nils, LV.nils, LV.int .i64 0, LV.int .i64 0]) rfl rfl ?_
  intro g17
  refine GL.storeW I0.mono (n := 4) rfl rfl rfl rfl rfl rfl rfl (by conv => lhs; whnf) rfl rfl rfl ?_
  refine GL.assign I0.mono (by conv => lhs; whnf) ?_
  refine GL.doneF ?_
  refine goOn ?_
  refine Wp.seqI ?_
  refine Wp.regI I0.mono ?_
  refine GL.move I0.mono (by conv => lhs; whnf) ?_
  refine GL.move I0.mono (by conv => lhs; whnf) ?_
  refine GL.move I0.mono (by conv => lhs; whnf) ?_
  refine GL.move I0.mono (by conv => lhs; whnf) ?_
  refine GL.move I0.mono (by conv => lhs; whnf) ?_
  refine GL.buildS I0.mono (z := [LV.int .i64 0, LV.nils, LV.nils, LV.nils, LV.int .i64 0]) (cs := [_, _, _, _, _]) (n := 5) rfl rfl rfl (EvS.cons (by conv => lhs; whnf) (EvS.cons (by conv => lhs; whnf) (EvS.cons (by conv => lhs; whnf) (EvS.cons (by conv => lhs; whnf) (EvS.cons (by conv => lhs; whnf) (EvS.nil)))))) rfl rfl ?_
  refine GL.alloc I0.mono (cs := [LV.int .i64 0, LV.nils, LV.nils, LV.nils, LV.int .i64 0]) rfl rfl ?_
  intro g19
  refine GL.storeW I0.mono (n := 5) rfl rfl rfl rfl rfl rfl rfl (by conv => lhs; whnf) rfl rfl rfl ?_
  refine GL.doneF ?_
  refine goOn ?_
  refine Wp.seqI ?_
  refine Wp.seqI ?_
  refine Wp.regI I0.mono ?_
  refine GL.move I0.mono (by conv => lhs; whnf) ?_
  refine GL.doneF ?_
  refine goOn ?_
  refine Wp.condI rfl (fun h46 => ?_) (fun h46 => ?_)
  ·skip
   refine Wp.seqI ?_
   refine Wp.regD ?_
   refine GL.fieldAddr I0.mono (o := 0) rfl rfl rfl rfl (by conv => lhs; whnf) ?_
   refine GL.load I0.mono rfl rfl rfl rfl (by simp) (by rfl) rfl ?_
   refine GL.callSlo I0.mono (n := T.t0.length) rfl (Frz.aggc (by exact Frz.pure rfl) (Frz.aggn)) (copy_ok T.t0 (by omega)) rfl (em_len _ _) ?_
   intro g49
   refine GL.fieldAddr I0.mono (o := 1) rfl rfl rfl rfl (by conv => lhs; whnf) ?_
   refine GL.load I0.mono rfl rfl rfl rfl (by simp) (by rfl) rfl ?_
   refine GL.callSlo I0.mono (n := T.t1.length) rfl (Frz.aggc (by exact Frz.pure rfl) (Frz.aggn)) (copy_ok T.t1 (by omega)) rfl (em_len _ _) ?_
   intro g52
   refine GL.fieldAddr I0.mono (o := 2) rfl rfl rfl rfl (by conv => lhs; whnf) ?_
   refine GL.load I0.mono rfl rfl rfl rfl (by simp) (by rfl) rfl ?_
   refine GL.fieldAddr I0.mono (o := 2) rfl rfl rfl rfl (by conv => lhs; whnf) ?_
   refine GL.store I0.mono (n := 1) rfl rfl rfl rfl rfl rfl rfl rfl rfl rfl (Nat.le_of_ble_eq_true rfl) (by (conv => lhs; simp only [List.take_succ_cons, List.take_zero, List.drop_succ_cons, List.drop_zero, List.nil_append, List.cons_append, List.drop_nil, List.append_nil, List.take_nil, List.set_cons_zero, List.set_cons_succ, Nat.zero_add, ni, nr, nc, ns, np, ic, nt, ei, cellsL, kc, ec])) (by (conv => lhs; simp only [List.take_succ_cons, List.take_zero, List.drop_succ_cons, List.drop_zero, List.nil_append, List.cons_append, List.drop_nil, List.append_nil, List.take_nil, List.set_cons_zero, List.set_cons_succ, Nat.zero_add, ni, nr, nc, ns, np, ic, nt, ei, cellsL, kc, ec])) ?_
   refine GL.fieldAddr I0.mono (o := 3) rfl rfl rfl rfl (by conv => lhs; whnf) ?_
   refine GL.store I0.mono (n := 1) rfl rfl rfl rfl rfl rfl rfl rfl rfl rfl (Nat.le_of_ble_eq_true rfl) (by (conv => lhs; simp only [List.take_succ_cons, List.take_zero, List.drop_succ_cons, List.drop_zero, List.nil_append, List.cons_append, List.drop_nil, List.append_nil, List.take_nil, List.set_cons_zero, List.set_cons_succ, Nat.zero_add, ni, nr, nc, ns, np, ic, nt, ei, cellsL, kc, ec])) (by (conv => lhs; simp only [List.take_succ_cons, List.take_zero, List.drop_succ_cons, List.drop_zero, List.nil_append, List.cons_append, List.drop_nil, List.append_nil, List.take_nil, List.set_cons_zero, List.set_cons_succ, Nat.zero_add, ni, nr, nc, ns, np, ic, nt, ei, cellsL, kc, ec])) ?_
   refine GL.fieldAddr I0.mono (o := 4) rfl rfl rfl rfl (by conv => lhs; whnf) ?_
   refine GL.store I0.mono (n := 1) rfl rfl rfl rfl rfl rfl rfl rfl rfl rfl (Nat.le_of_ble_eq_true rfl) (by (conv => lhs; simp only [List.take_succ_cons, List.take_zero, List.drop_succ_cons, List.drop_zero, List.nil_append, List.cons_append, List.drop_nil, List.append_nil, List.take_nil, List.set_cons_zero, List.set_cons_succ, Nat.zero_add, ni, nr, nc, ns, np, ic, nt, ei, cellsL, kc, ec])) (by (conv => lhs; simp only [List.take_succ_cons, List.take_zero, List.drop_succ_cons, List.drop_zero, List.nil_append, List.cons_append, List.drop_nil, List.append_nil, List.take_nil, List.set_cons_zero, List.set_cons_succ, Nat.zero_add, ni, nr, nc, ns, np, ic, nt, ei, cellsL, kc, ec])) ?_
   refine GL.doneT (by kernel_rfl) ?_
   refine goOn ?_
   refine Wp.seqI ?_
   have hk := within_in (a := cost0) (n := 4 * (r.length : Int) + 1) (by omega)
   refine Wp.regI I0.mono ?_
   refine GL.move I0.mono (by conv => lhs; whnf) ?_
   refine GL.move I0.mono (by conv => lhs; whnf) ?_
   refine GL.lenF I0.mono rfl rfl (em_len _ _) ?_
   refine GL.mulR I0.mono rfl rfl (by omega) ?_
   refine GL.addR I0.mono rfl rfl (by omega) ?_
   refine GL.call0 I0.mono rfl (Frz.aggc (by exact Frz.pure rfl) (Frz.aggc (by exact Frz.pure rfl) (Frz.aggn))) (within_ok _ _ (by omega)) rfl rfl (fun _ => rfl) ?_
   refine GL.assign I0.mono (by conv => lhs; whnf) ?_
   refine GL.doneF ?_
   refine goOn ?_
   refine Wp.seqI ?_
   refine Wp.regI I0.mono ?_
   refine GL.move I0.mono (by conv => lhs; whnf) ?_
   refine GL.fieldAddr I0.mono (o := 2) rfl rfl rfl rfl (by conv => lhs; whnf) ?_
   refine GL.load I0.mono rfl rfl rfl rfl (by simp) (by rfl) rfl ?_
   refine GL.lenO I0.mono rfl rfl rfl rfl ?_
   refine GL.bin I0.mono rfl ?_
   refine GL.doneF ?_
   refine goOn ?_
   refine Wp.condI rfl (fun h68 => ?_) (fun h68 => ?_)
   ·replace h68 := of_decide_eq_true h68
    refine Wp.regI I0.mono ?_
    refine GL.fieldAddr I0.mono (o := 2) rfl rfl rfl rfl (by conv => lhs; whnf) ?_
    refine GL.load I0.mono rfl rfl rfl rfl (by simp) (by rfl) rfl ?_
    refine GL.move I0.mono (by conv => lhs; whnf) ?_
    refine GL.indexAddr I0.mono (sz := 1) rfl rfl rfl rfl rfl rfl rfl rfl (by omega) (by omega) (by (conv => lhs; simp only [Nat.zero_add, Int.toNat_natCast])) ?_
    refine GL.load I0.mono rfl rfl rfl rfl (by simp) (by exact em_get (by omega)) rfl ?_
    refine GL.bin I0.mono rfl ?_
    refine GL.indexAddr I0.mono (sz := 1) rfl rfl rfl rfl rfl rfl rfl rfl (by omega) (by omega) (by (conv => lhs; simp only [Nat.zero_add, Int.toNat_natCast])) ?_
    refine GL.storeS I0.mono (n := 1) (es' := em ni (T.t0.set (within cost0 (4 * (r.length : Int) + 1)).toNat (IntKind.i64.wrap (T.t0.getD (within cost0 (4 * (r.length : Int) + 1)).toNat default + 1)))) rfl rfl rfl rfl rfl rfl (em_get (by omega)) rfl rfl rfl rfl (Nat.le_of_ble_eq_true rfl) rfl (em_set ni _ _ _) ?_
    refine GL.doneF ?_
    refine goOn ?_
    refine Wp.seqI ?_
    refine Wp.regI I0.mono ?_
    refine GL.move I0.mono (by conv => lhs; whnf) ?_
    refine GL.move I0.mono (by conv => lhs; whnf) ?_
    refine GL.splitAt 97 rfl (fun h97 => ?_) (fun h97 => ?_)
    ·rw [h97]
     skip
     refine GL.guardT rfl ?_
     refine GL.fieldAddr I0.mono (o := 2) rfl rfl rfl rfl (by conv => lhs; whnf) ?_
     refine GL.guardT rfl ?_
     refine GL.load I0.mono rfl rfl rfl rfl (by simp) (by rfl) rfl ?_
     refine GL.guardT rfl ?_
     refine GL.fieldAddr I0.mono (o := 0) rfl rfl rfl rfl (by conv => lhs; whnf) ?_
     refine GL.guardT rfl ?_
     refine GL.load I0.mono rfl rfl rfl rfl (by simp) (by rfl) rfl ?_
     refine GL.guardT rfl ?_
     refine GL.callM0 I0.mono rfl (Frz.aggc (by exact Frz.whole rfl rfl rfl rfl (by (rw [em_len, List.length_set]))) (Frz.aggc (by exact Frz.pure rfl) (Frz.aggn))) (same_big _ _ (by (rw [List.length_set]; omega)) (by unfold Short; omega)) rfl rfl (fun _ => rfl) ?_
     refine GL.pick I0.mono rfl (by conv => lhs; whnf) ?_
     refine GL.move I0.mono (by conv => lhs; whnf) ?_
     refine GL.splitAt 104 rfl (fun h104 => ?_) (fun h104 => ?_)
     ·rw [h104]
      skip
      refine GL.guardT rfl ?_
      refine GL.fieldAddr I0.mono (o := 3) rfl rfl rfl rfl (by conv => lhs; whnf) ?_
      refine GL.guardT rfl ?_
      refine GL.load I0.mono rfl rfl rfl rfl (by simp) (by rfl) rfl ?_
      refine GL.guardT rfl ?_
      refine GL.fieldAddr I0.mono (o := 1) rfl rfl rfl rfl (by conv => lhs; whnf) ?_
      refine GL.guardT rfl ?_
      refine GL.load I0.mono rfl rfl rfl rfl (by simp) (by rfl) rfl ?_
      refine GL.guardT rfl ?_
      refine GL.callM0 I0.mono rfl (Frz.aggc (by exact Frz.whole rfl rfl rfl rfl (by exact em_len _ _)) (Frz.aggc (by exact Frz.pure rfl) (Frz.aggn))) (same_big _ _ (by omega) (by unfold Short; omega)) rfl rfl (fun _ => rfl) ?_
      refine GL.pick I0.mono rfl (by conv => lhs; whnf) ?_
      refine GL.move I0.mono (by conv => lhs; whnf) ?_
      refine GL.splitAt 111 rfl (fun h111 => ?_) (fun h111 => ?_)
      ·rw [h111]
       skip
       refine GL.guardT rfl ?_
       refine GL.fieldAddr I0.mono (o := 4) rfl rfl rfl rfl (by conv => lhs; whnf) ?_
       refine GL.guardT rfl ?_
       refine GL.load I0.mono rfl rfl rfl rfl (by simp) (by rfl) rfl ?_
       refine GL.guardT rfl ?_
       refine GL.fieldAddr I0.mono (o := 2) rfl rfl rfl rfl (by conv => lhs; whnf) ?_
       refine GL.guardT rfl ?_
       refine GL.load I0.mono rfl rfl rfl rfl (by simp) (by rfl) rfl ?_
       refine GL.guardT rfl ?_
       refine GL.bin I0.mono rfl ?_
       refine GL.pick I0.mono rfl (by conv => lhs; whnf) ?_
       refine GL.assign I0.mono (by conv => lhs; whnf) ?_
       refine GL.doneF ?_
       refine goOn ?_
       refine Wp.seqI ?_
       refine Wp.regI I0.mono ?_
       refine GL.loadW I0.mono (n := 4) rfl rfl rfl rfl (by simp) (by rfl) rfl rfl ?_
       refine GL.loadW I0.mono (n := 5) rfl rfl rfl rfl (by simp) (by rfl) rfl rfl ?_
       refine GL.callM0 I0.mono rfl (Frz.aggc (by exact Frz.pures rfl) (Frz.aggc (by exact (Frz.aggc (by exact Frz.pure rfl) (Frz.aggc (by exact Frz.pure rfl) (Frz.aggc (by exact Frz.whole rfl rfl rfl rfl (by (rw [em_len, List.length_set]))) (Frz.aggc (by exact Frz.whole rfl rfl rfl rfl (by exact em_len _ _)) (Frz.aggc (by exact Frz.pure rfl) Frz.aggn)))))) (Frz.aggn))) (hR _ _ _ (by (rw [List.length_set]; omega)) (by exact Nat.lt_of_le_of_lt hT1 (by decide))) rfl rfl (fun _ => rfl) ?_
       refine GL.move I0.mono (by conv => lhs; whnf) ?_
       refine GL.bin I0.mono (v := .bool true) (congrArg (fun z => some (LV.bool z)) (by exact w3 h97 h104 h111)) ?_
       refine GL.move I0.mono (by conv => lhs; whnf) ?_
       refine GL.guardT rfl ?_
       refine GL.call0 I0.mono rfl (Frz.aggn) (wakes11_ok) rfl rfl (fun _ => rfl) ?_
       refine GL.pick I0.mono rfl (by conv => lhs; whnf) ?_
       refine GL.assign I0.mono (by conv => lhs; whnf) ?_
       refine GL.doneF ?_
       refine goOn ?_
       refine Wp.retI ?_
       refine RetX.ret ?_
       refine ⟨_, _, _, _, .cons (.tmp rfl) .nil, .frz (.pure rfl), List.nodup_nil, by simp, ?_⟩
       rfl
      ·rw [h111]
       skip
       refine GL.guardF rfl ?_
       refine GL.guardF rfl ?_
       refine GL.guardF rfl ?_
       refine GL.guardF rfl ?_
       refine GL.guardF rfl ?_
       refine GL.pick I0.mono rfl (by conv => lhs; whnf) ?_
       refine GL.assign I0.mono (by conv => lhs; whnf) ?_
       refine GL.doneF ?_
       refine goOn ?_
       refine Wp.seqI ?_
       refine Wp.regI I0.mono ?_
       refine GL.loadW I0.mono (n := 4) rfl rfl rfl rfl (by simp) (by rfl) rfl rfl ?_
       refine GL.loadW I0.mono (n := 5) rfl rfl rfl rfl (by simp) (by rfl) rfl rfl ?_
       refine GL.callM0 I0.mono rfl (Frz.aggc (by exact Frz.pures rfl) (Frz.aggc (by exact (Frz.aggc (by exact Frz.pure rfl) (Frz.aggc (by exact Frz.pure rfl) (Frz.aggc (by exact Frz.whole rfl rfl rfl rfl (by (rw [em_len, List.length_set]))) (Frz.aggc (by exact Frz.whole rfl rfl rfl rfl (by exact em_len _ _)) (Frz.aggc (by exact Frz.pure rfl) Frz.aggn)))))) (Frz.aggn))) (hR _ _ _ (by (rw [List.length_set]; omega)) (by exact Nat.lt_of_le_of_lt hT1 (by decide))) rfl rfl (fun _ => rfl) ?_
       refine GL.move I0.mono (by conv => lhs; whnf) ?_
       refine GL.bin I0.mono (v := .bool true) (congrArg (fun z => some (LV.bool z)) (by exact w2 h111)) ?_
       refine GL.move I0.mono (by conv => lhs; whnf) ?_
       refine GL.guardT rfl ?_
       refine GL.call0 I0.mono rfl (Frz.aggn) (wakes11_ok) rfl rfl (fun _ => rfl) ?_
       refine GL.pick I0.mono rfl (by conv => lhs; whnf) ?_
       refine GL.assign I0.mono (by conv => lhs; whnf) ?_
       refine GL.doneF ?_
       refine goOn ?_
       refine Wp.retI ?_
       refine RetX.ret ?_
       refine ⟨_, _, _, _, .cons (.tmp rfl) .nil, .frz (.pure rfl), List.nodup_nil, by simp, ?_⟩
       rfl
     ·rw [h104]
      skip
      refine GL.guardF rfl ?_
      refine GL.guardF rfl ?_
      refine GL.guardF rfl ?_
      refine GL.guardF rfl ?_
      refine GL.guardF rfl ?_
      refine GL.pick I0.mono rfl (by conv => lhs; whnf) ?_
      refine GL.move I0.mono (by conv => lhs; whnf) ?_
      refine GL.guardF rfl ?_
      refine GL.guardF rfl ?_
      refine GL.guardF rfl ?_
      refine GL.guardF rfl ?_
      refine GL.guardF rfl ?_
      refine GL.pick I0.mono rfl (by conv => lhs; whnf) ?_
      refine GL.assign I0.mono (by conv => lhs; whnf) ?_
      refine GL.doneF ?_
      refine goOn ?_
      refine Wp.seqI ?_
      refine Wp.regI I0.mono ?_
      refine GL.loadW I0.mono (n := 4) rfl rfl rfl rfl (by simp) (by rfl) rfl rfl ?_
      refine GL.loadW I0.mono (n := 5) rfl rfl rfl rfl (by simp) (by rfl) rfl rfl ?_
      refine GL.callM0 I0.mono rfl (Frz.aggc (by exact Frz.pures rfl) (Frz.aggc (by exact (Frz.aggc (by exact Frz.pure rfl) (Frz.aggc (by exact Frz.pure rfl) (Frz.aggc (by exact Frz.whole rfl rfl rfl rfl (by (rw [em_len, List.length_set]))) (Frz.aggc (by exact Frz.whole rfl rfl rfl rfl (by exact em_len _ _)) (Frz.aggc (by exact Frz.pure rfl) Frz.aggn)))))) (Frz.aggn))) (hR _ _ _ (by (rw [List.length_set]; omega)) (by exact Nat.lt_of_le_of_lt hT1 (by decide))) rfl rfl (fun _ => rfl) ?_
      refine GL.move I0.mono (by conv => lhs; whnf) ?_
      refine GL.bin I0.mono (v := .bool true) (congrArg (fun z => some (LV.bool z)) (by exact w1 h104)) ?_
      refine GL.move I0.mono (by conv => lhs; whnf) ?_
      refine GL.guardT rfl ?_
      refine GL.call0 I0.mono rfl (Frz.aggn) (wakes11_ok) rfl rfl (fun _ => rfl) ?_
      refine GL.pick I0.mono rfl (by conv => lhs; whnf) ?_
      refine GL.assign I0.mono (by conv => lhs; whnf) ?_
      refine GL.doneF ?_
      refine goOn ?_
      refine Wp.retI ?_
      refine RetX.ret ?_
      refine ⟨_, _, _, _, .cons (.tmp rfl) .nil, .frz (.pure rfl), List.nodup_nil, by simp, ?_⟩
      rfl
    ·rw [h97]
     skip
     refine GL.guardF rfl ?_
     refine GL.guardF rfl ?_
     refine GL.guardF rfl ?_
     refine GL.guardF rfl ?_
     refine GL.guardF rfl ?_
     refine GL.pick I0.mono rfl (by conv => lhs; whnf) ?_
     refine GL.move I0.mono (by conv => lhs; whnf) ?_
     refine GL.guardF rfl ?_
     refine GL.guardF rfl ?_
     refine GL.guardF rfl ?_
     refine GL.guardF rfl ?_
     refine GL.guardF rfl ?_
     refine GL.pick I0.mono rfl (by conv => lhs; whnf) ?_
     refine GL.move I0.mono (by conv => lhs; whnf) ?_
     refine GL.guardF rfl ?_
     refine GL.guardF rfl ?_
     refine GL.guardF rfl ?_
     refine GL.guardF rfl ?_
     refine GL.guardF rfl ?_
     refine GL.pick I0.mono rfl (by conv => lhs; whnf) ?_
     refine GL.assign I0.mono (by conv => lhs; whnf) ?_
     refine GL.doneF ?_
     refine goOn ?_
     refine Wp.seqI ?_
     refine Wp.regI I0.mono ?_
     refine GL.loadW I0.mono (n := 4) rfl rfl rfl rfl (by simp) (by rfl) rfl rfl ?_
     refine GL.loadW I0.mono (n := 5) rfl rfl rfl rfl (by simp) (by rfl) rfl rfl ?_
     refine GL.callM0 I0.mono rfl (Frz.aggc (by exact Frz.pures rfl) (Frz.aggc (by exact (Frz.aggc (by exact Frz.pure rfl) (Frz.aggc (by exact Frz.pure rfl) (Frz.aggc (by exact Frz.whole rfl rfl rfl rfl (by (rw [em_len, List.length_set]))) (Frz.aggc (by exact Frz.whole rfl rfl rfl rfl (by exact em_len _ _)) (Frz.aggc (by exact Frz.pure rfl) Frz.aggn)))))) (Frz.aggn))) (hR _ _ _ (by (rw [List.length_set]; omega)) (by exact Nat.lt_of_le_of_lt hT1 (by decide))) rfl rfl (fun _ => rfl) ?_
     refine GL.move I0.mono (by conv => lhs; whnf) ?_
     refine GL.bin I0.mono (v := .bool true) (congrArg (fun z => some (LV.bool z)) (by exact w0 h97)) ?_
     refine GL.move I0.mono (by conv => lhs; whnf) ?_
     refine GL.guardT rfl ?_
     refine GL.call0 I0.mono rfl (Frz.aggn) (wakes11_ok) rfl rfl (fun _ => rfl) ?_
     refine GL.pick I0.mono rfl (by conv => lhs; whnf) ?_
     refine GL.assign I0.mono (by conv => lhs; whnf) ?_
     refine GL.doneF ?_
     refine goOn ?_
     refine Wp.retI ?_
     refine RetX.ret ?_
     refine ⟨_, _, _, _, .cons (.tmp rfl) .nil, .frz (.pure rfl), List.nodup_nil, by simp, ?_⟩
     rfl
   ·replace h68 := of_decide_eq_false h68
    refine Wp.seqI ?_
    refine Wp.regI I0.mono ?_
    refine GL.move I0.mono (by conv => lhs; whnf) ?_
    refine GL.fieldAddr I0.mono (o := 2) rfl rfl rfl rfl (by conv => lhs; whnf) ?_
    refine GL.load I0.mono rfl rfl rfl rfl (by simp) (by rfl) rfl ?_
    refine GL.lenO I0.mono rfl rfl rfl rfl ?_
    refine GL.subR I0.mono rfl rfl (by omega) ?_
    refine GL.fieldAddr I0.mono (o := 3) rfl rfl rfl rfl (by conv => lhs; whnf) ?_
    refine GL.load I0.mono rfl rfl rfl rfl (by simp) (by rfl) rfl ?_
    refine GL.lenO I0.mono rfl rfl rfl rfl ?_
    refine GL.bin I0.mono rfl ?_
    refine GL.doneF ?_
    refine goOn ?_
    refine Wp.condI rfl (fun h84 => ?_) (fun h84 => ?_)
    ·replace h84 := of_decide_eq_true h84
     refine Wp.regI I0.mono ?_
     refine GL.fieldAddr I0.mono (o := 3) rfl rfl rfl rfl (by conv => lhs; whnf) ?_
     refine GL.load I0.mono rfl rfl rfl rfl (by simp) (by rfl) rfl ?_
     refine GL.move I0.mono (by conv => lhs; whnf) ?_
     refine GL.fieldAddr I0.mono (o := 2) rfl rfl rfl rfl (by conv => lhs; whnf) ?_
     refine GL.load I0.mono rfl rfl rfl rfl (by simp) (by rfl) rfl ?_
     refine GL.lenO I0.mono rfl rfl rfl rfl ?_
     refine GL.subR I0.mono rfl rfl (by omega) ?_
     refine GL.indexAddr I0.mono (sz := 1) rfl rfl rfl rfl rfl rfl rfl rfl (by omega) (by omega) (by (conv => lhs; simp only [Nat.zero_add, Int.toNat_natCast])) ?_
     refine GL.load I0.mono rfl rfl rfl rfl (by simp) (by exact em_get (by omega)) rfl ?_
     refine GL.bin I0.mono rfl ?_
     refine GL.indexAddr I0.mono (sz := 1) rfl rfl rfl rfl rfl rfl rfl rfl (by omega) (by omega) (by (conv => lhs; simp only [Nat.zero_add, Int.toNat_natCast])) ?_
     refine GL.storeS I0.mono (n := 1) (es' := em ni (T.t1.set ((within cost0 (4 * (r.length : Int) + 1)) - T.t0.length).toNat (IntKind.i64.wrap (T.t1.getD ((within cost0 (4 * (r.length : Int) + 1)) - T.t0.length).toNat default - 1)))) rfl rfl rfl rfl rfl rfl (em_get (by omega)) rfl rfl rfl rfl (Nat.le_of_ble_eq_true rfl) rfl (em_set ni _ _ _) ?_
     refine GL.doneF ?_
     refine goOn ?_
     refine Wp.seqI ?_
     refine Wp.regI I0.mono ?_
     refine GL.move I0.mono (by conv => lhs; whnf) ?_
     refine GL.move I0.mono (by conv => lhs; whnf) ?_
     refine GL.splitAt 97 rfl (fun h97 => ?_) (fun h97 => ?_)
     ·rw [h97]
      skip
      refine GL.guardT rfl ?_
      refine GL.fieldAddr I0.mono (o := 2) rfl rfl rfl rfl (by conv => lhs; whnf) ?_
      refine GL.guardT rfl ?_
      refine GL.load I0.mono rfl rfl rfl rfl (by simp) (by rfl) rfl ?_
      refine GL.guardT rfl ?_
      refine GL.fieldAddr I0.mono (o := 0) rfl rfl rfl rfl (by conv => lhs; whnf) ?_
      refine GL.guardT rfl ?_
      refine GL.load I0.mono rfl rfl rfl rfl (by simp) (by rfl) rfl ?_
      refine GL.guardT rfl ?_
      refine GL.callM0 I0.mono rfl (Frz.aggc (by exact Frz.whole rfl rfl rfl rfl (by exact em_len _ _)) (Frz.aggc (by exact Frz.pure rfl) (Frz.aggn))) (same_big _ _ (by omega) (by unfold Short; omega)) rfl rfl (fun _ => rfl) ?_
      refine GL.pick I0.mono rfl (by conv => lhs; whnf) ?_
      refine GL.move I0.mono (by conv => lhs; whnf) ?_
      refine GL.splitAt 104 rfl (fun h104 => ?_) (fun h104 => ?_)
      ·rw [h104]
       skip
       refine GL.guardT rfl ?_
       refine GL.fieldAddr I0.mono (o := 3) rfl rfl rfl rfl (by conv => lhs; whnf) ?_
       refine GL.guardT rfl ?_
       refine GL.load I0.mono rfl rfl rfl rfl (by simp) (by rfl) rfl ?_
       refine GL.guardT rfl ?_
       refine GL.fieldAddr I0.mono (o := 1) rfl rfl rfl rfl (by conv => lhs; whnf) ?_
       refine GL.guardT rfl ?_
       refine GL.load I0.mono rfl rfl rfl rfl (by simp) (by rfl) rfl ?_
       refine GL.guardT rfl ?_
       refine GL.callM0 I0.mono rfl (Frz.aggc (by exact Frz.whole rfl rfl rfl rfl (by (rw [em_len, List.length_set]))) (Frz.aggc (by exact Frz.pure rfl) (Frz.aggn))) (same_big _ _ (by (rw [List.length_set]; omega)) (by unfold Short; omega)) rfl rfl (fun _ => rfl) ?_
       refine GL.pick I0.mono rfl (by conv => lhs; whnf) ?_
       refine GL.move I0.mono (by conv => lhs; whnf) ?_
       refine GL.splitAt 111 rfl (fun h111 => ?_) (fun h111 => ?_)
       ·rw [h111]
        skip
        refine GL.guardT rfl ?_
        refine GL.fieldAddr I0.mono (o := 4) rfl rfl rfl rfl (by conv => lhs; whnf) ?_
        refine GL.guardT rfl ?_
        refine GL.load I0.mono rfl rfl rfl rfl (by simp) (by rfl) rfl ?_
        refine GL.guardT rfl ?_
        refine GL.fieldAddr I0.mono (o := 2) rfl rfl rfl rfl (by conv => lhs; whnf) ?_
        refine GL.guardT rfl ?_
        refine GL.load I0.mono rfl rfl rfl rfl (by simp) (by rfl) rfl ?_
        refine GL.guardT rfl ?_
        refine GL.bin I0.mono rfl ?_
        refine GL.pick I0.mono rfl (by conv => lhs; whnf) ?_
        refine GL.assign I0.mono (by conv => lhs; whnf) ?_
        refine GL.doneF ?_
        refine goOn ?_
        refine Wp.seqI ?_
        refine Wp.regI I0.mono ?_
        refine GL.loadW I0.mono (n := 4) rfl rfl rfl rfl (by simp) (by rfl) rfl rfl ?_
        refine GL.loadW I0.mono (n := 5) rfl rfl rfl rfl (by simp) (by rfl) rfl rfl ?_
        refine GL.callM0 I0.mono rfl (Frz.aggc (by exact Frz.pures rfl) (Frz.aggc (by exact (Frz.aggc (by exact Frz.pure rfl) (Frz.aggc (by exact Frz.pure rfl) (Frz.aggc (by exact Frz.whole rfl rfl rfl rfl (by exact em_len _ _)) (Frz.aggc (by exact Frz.whole rfl rfl rfl rfl (by (rw [em_len, List.length_set]))) (Frz.aggc (by exact Frz.pure rfl) Frz.aggn)))))) (Frz.aggn))) (hR _ _ _ (by exact Nat.lt_of_le_of_lt hT0 (by decide)) (by (rw [List.length_set]; omega))) rfl rfl (fun _ => rfl) ?_
        refine GL.move I0.mono (by conv => lhs; whnf) ?_
        refine GL.bin I0.mono (v := .bool true) (congrArg (fun z => some (LV.bool z)) (by exact w3 h97 h104 h111)) ?_
        refine GL.move I0.mono (by conv => lhs; whnf) ?_
        refine GL.guardT rfl ?_
        refine GL.call0 I0.mono rfl (Frz.aggn) (wakes11_ok) rfl rfl (fun _ => rfl) ?_
        refine GL.pick I0.mono rfl (by conv => lhs; whnf) ?_
        refine GL.assign I0.mono (by conv => lhs; whnf) ?_
        refine GL.doneF ?_
        refine goOn ?_
        refine Wp.retI ?_
        refine RetX.ret ?_
        refine ⟨_, _, _, _, .cons (.tmp rfl) .nil, .frz (.pure rfl), List.nodup_nil, by simp, ?_⟩
        rfl
       ·rw [h111]
        skip
        refine GL.guardF rfl ?_
        refine GL.guardF rfl ?_
        refine GL.guardF rfl ?_
        refine GL.guardF rfl ?_
        refine GL.guardF rfl ?_
        refine GL.pick I0.mono rfl (by conv => lhs; whnf) ?_
        refine GL.assign I0.mono (by conv => lhs; whnf) ?_
        refine GL.doneF ?_
        refine goOn ?_
        refine Wp.seqI ?_
        refine Wp.regI I0.mono ?_
        refine GL.loadW I0.mono (n := 4) rfl rfl rfl rfl (by simp) (by rfl) rfl rfl ?_
        refine GL.loadW I0.mono (n := 5) rfl rfl rfl rfl (by simp) (by rfl) rfl rfl ?_
        refine GL.callM0 I0.mono rfl (Frz.aggc (by exact Frz.pures rfl) (Frz.aggc (by exact (Frz.aggc (by exact Frz.pure rfl) (Frz.aggc (by exact Frz.pure rfl) (Frz.aggc (by exact Frz.whole rfl rfl rfl rfl (by exact em_len _ _)) (Frz.aggc (by exact Frz.whole rfl rfl rfl rfl (by (rw [em_len, List.length_set]))) (Frz.aggc (by exact Frz.pure rfl) Frz.aggn)))))) (Frz.aggn))) (hR _ _ _ (by exact Nat.lt_of_le_of_lt hT0 (by decide)) (by (rw [List.length_set]; omega))) rfl rfl (fun _ => rfl) ?_
        refine GL.move I0.mono (by conv => lhs; whnf) ?_
        refine GL.bin I0.mono (v := .bool true) (congrArg (fun z => some (LV.bool z)) (by exact w2 h111)) ?_
        refine GL.move I0.mono (by conv => lhs; whnf) ?_
        refine GL.guardT rfl ?_
        refine GL.call0 I0.mono rfl (Frz.aggn) (wakes11_ok) rfl rfl (fun _ => rfl) ?_
        refine GL.pick I0.mono rfl (by conv => lhs; whnf) ?_
        refine GL.assign I0.mono (by conv => lhs; whnf) ?_
        refine GL.doneF ?_
        refine goOn ?_
        refine Wp.retI ?_
        refine RetX.ret ?_
        refine ⟨_, _, _, _, .cons (.tmp rfl) .nil, .frz (.pure rfl), List.nodup_nil, by simp, ?_⟩
        rfl
      ·rw [h104]
       skip
       refine GL.guardF rfl ?_
       refine GL.guardF rfl ?_
       refine GL.guardF rfl ?_
       refine GL.guardF rfl ?_
       refine GL.guardF rfl ?_
       refine GL.pick I0.mono rfl (by conv => lhs; whnf) ?_
       refine GL.move I0.mono (by conv => lhs; whnf) ?_
       refine GL.guardF rfl ?_
       refine GL.guardF rfl ?_
       refine GL.guardF rfl ?_
       refine GL.guardF rfl ?_
       refine GL.guardF rfl ?_
       refine GL.pick I0.mono rfl (by conv => lhs; whnf) ?_
       refine GL.assign I0.mono (by conv => lhs; whnf) ?_
       refine GL.doneF ?_
       refine goOn ?_
       refine Wp.seqI ?_
       refine Wp.regI I0.mono ?_
       refine GL.loadW I0.mono (n := 4) rfl rfl rfl rfl (by simp) (by rfl) rfl rfl ?_
       refine GL.loadW I0.mono (n := 5) rfl rfl rfl rfl (by simp) (by rfl) rfl rfl ?_
       refine GL.callM0 I0.mono rfl (Frz.aggc (by exact Frz.pures rfl) (Frz.aggc (by exact (Frz.aggc (by exact Frz.pure rfl) (Frz.aggc (by exact Frz.pure rfl) (Frz.aggc (by exact Frz.whole rfl rfl rfl rfl (by exact em_len _ _)) (Frz.aggc (by exact Frz.whole rfl rfl rfl rfl (by (rw [em_len, List.length_set]))) (Frz.aggc (by exact Frz.pure rfl) Frz.aggn)))))) (Frz.aggn))) (hR _ _ _ (by exact Nat.lt_of_le_of_lt hT0 (by decide)) (by (rw [List.length_set]; omega))) rfl rfl (fun _ => rfl) ?_
       refine GL.move I0.mono (by conv => lhs; whnf) ?_
       refine GL.bin I0.mono (v := .bool true) (congrArg (fun z => some (LV.bool z)) (by exact w1 h104)) ?_
       refine GL.move I0.mono (by conv => lhs; whnf) ?_
       refine GL.guardT rfl ?_
       refine GL.call0 I0.mono rfl (Frz.aggn) (wakes11_ok) rfl rfl (fun _ => rfl) ?_
       refine GL.pick I0.mono rfl (by conv => lhs; whnf) ?_
       refine GL.assign I0.mono (by conv => lhs; whnf) ?_
       refine GL.doneF ?_
       refine goOn ?_
       refine Wp.retI ?_
       refine RetX.ret ?_
       refine ⟨_, _, _, _, .cons (.tmp rfl) .nil, .frz (.pure rfl), List.nodup_nil, by simp, ?_⟩
       rfl
     ·rw [h97]
      skip
      refine GL.guardF rfl ?_
      refine GL.guardF rfl ?_
      refine GL.guardF rfl ?_
      refine GL.guardF rfl ?_
      refine GL.guardF rfl ?_
      refine GL.pick I0.mono rfl (by conv => lhs; whnf) ?_
      refine GL.move I0.mono (by conv => lhs; whnf) ?_
      refine GL.guardF rfl ?_
      refine GL.guardF rfl ?_
      refine GL.guardF rfl ?_
      refine GL.guardF rfl ?_
      refine GL.guardF rfl ?_
      refine GL.pick I0.mono rfl (by conv => lhs; whnf) ?_
      refine GL.move I0.mono (by conv => lhs; whnf) ?_
      refine GL.guardF rfl ?_
      refine GL.guardF rfl ?_
      refine GL.guardF rfl ?_
      refine GL.guardF rfl ?_
      refine GL.guardF rfl ?_
      refine GL.pick I0.mono rfl (by conv => lhs; whnf) ?_
      refine GL.assign I0.mono (by conv => lhs; whnf) ?_
      refine GL.doneF ?_
      refine goOn ?_
      refine Wp.seqI ?_
      refine Wp.regI I0.mono ?_
      refine GL.loadW I0.mono (n := 4) rfl rfl rfl rfl (by simp) (by rfl) rfl rfl ?_
      refine GL.loadW I0.mono (n := 5) rfl rfl rfl rfl (by simp) (by rfl) rfl rfl ?_
      refine GL.callM0 I0.mono rfl (Frz.aggc (by exact Frz.pures rfl) (Frz.aggc (by exact (Frz.aggc (by exact Frz.pure rfl) (Frz.aggc (by exact Frz.pure rfl) (Frz.aggc (by exact Frz.whole rfl rfl rfl rfl (by exact em_len _ _)) (Frz.aggc (by exact Frz.whole rfl rfl rfl rfl (by (rw [em_len, List.length_set]))) (Frz.aggc (by exact Frz.pure rfl) Frz.aggn)))))) (Frz.aggn))) (hR _ _ _ (by exact Nat.lt_of_le_of_lt hT0 (by decide)) (by (rw [List.length_set]; omega))) rfl rfl (fun _ => rfl) ?_
      refine GL.move I0.mono (by conv => lhs; whnf) ?_
      refine GL.bin I0.mono (v := .bool true) (congrArg (fun z => some (LV.bool z)) (by exact w0 h97)) ?_
      refine GL.move I0.mono (by conv => lhs; whnf) ?_
      refine GL.guardT rfl ?_
      refine GL.call0 I0.mono rfl (Frz.aggn) (wakes11_ok) rfl rfl (fun _ => rfl) ?_
      refine GL.pick I0.mono rfl (by conv => lhs; whnf) ?_
      refine GL.assign I0.mono (by conv => lhs; whnf) ?_
      refine GL.doneF ?_
      refine goOn ?_
      refine Wp.retI ?_
      refine RetX.ret ?_
      refine ⟨_, _, _, _, .cons (.tmp rfl) .nil, .frz (.pure rfl), List.nodup_nil, by simp, ?_⟩
      rfl
    ·replace h84 := of_decide_eq_false h84
     refine Wp.skipI ?_
     refine goOn ?_
     refine Wp.seqI ?_
     refine Wp.regI I0.mono ?_
     refine GL.move I0.mono (by conv => lhs; whnf) ?_
     refine GL.move I0.mono (by conv => lhs; whnf) ?_
     refine GL.splitAt 97 rfl (fun h97 => ?_) (fun h97 => ?_)
     ·rw [h97]
      skip
      refine GL.guardT rfl ?_
      refine GL.fieldAddr I0.mono (o := 2) rfl rfl rfl rfl (by conv => lhs; whnf) ?_
      refine GL.guardT rfl ?_
      refine GL.load I0.mono rfl rfl rfl rfl (by simp) (by rfl) rfl ?_
      refine GL.guardT rfl ?_
      refine GL.fieldAddr I0.mono (o := 0) rfl rfl rfl rfl (by conv => lhs; whnf) ?_
      refine GL.guardT rfl ?_
      refine GL.load I0.mono rfl rfl rfl rfl (by simp) (by rfl) rfl ?_
      refine GL.guardT rfl ?_
      refine GL.callM0 I0.mono rfl (Frz.aggc (by exact Frz.whole rfl rfl rfl rfl (by exact em_len _ _)) (Frz.aggc (by exact Frz.pure rfl) (Frz.aggn))) (same_big _ _ (by omega) (by unfold Short; omega)) rfl rfl (fun _ => rfl) ?_
      refine GL.pick I0.mono rfl (by conv => lhs; whnf) ?_
      refine GL.move I0.mono (by conv => lhs; whnf) ?_
      refine GL.splitAt 104 rfl (fun h104 => ?_) (fun h104 => ?_)
      ·rw [h104]
       skip
       refine GL.guardT rfl ?_
       refine GL.fieldAddr I0.mono (o := 3) rfl rfl rfl rfl (by conv => lhs; whnf) ?_
       refine GL.guardT rfl ?_
       refine GL.load I0.mono rfl rfl rfl rfl (by simp) (by rfl) rfl ?_
       refine GL.guardT rfl ?_
       refine GL.fieldAddr I0.mono (o := 1) rfl rfl rfl rfl (by conv => lhs; whnf) ?_
       refine GL.guardT rfl ?_
       refine GL.load I0.mono rfl rfl rfl rfl (by simp) (by rfl) rfl ?_
       refine GL.guardT rfl ?_
       refine GL.callM0 I0.mono rfl (Frz.aggc (by exact Frz.whole rfl rfl rfl rfl (by exact em_len _ _)) (Frz.aggc (by exact Frz.pure rfl) (Frz.aggn))) (same_big _ _ (by omega) (by unfold Short; omega)) rfl rfl (fun _ => rfl) ?_
       refine GL.pick I0.mono rfl (by conv => lhs; whnf) ?_
       refine GL.move I0.mono (by conv => lhs; whnf) ?_
       refine GL.splitAt 111 rfl (fun h111 => ?_) (fun h111 => ?_)
       ·rw [h111]
        skip
        refine GL.guardT rfl ?_
        refine GL.fieldAddr I0.mono (o := 4) rfl rfl rfl rfl (by conv => lhs; whnf) ?_
        refine GL.guardT rfl ?_
        refine GL.load I0.mono rfl rfl rfl rfl (by simp) (by rfl) rfl ?_
        refine GL.guardT rfl ?_
        refine GL.fieldAddr I0.mono (o := 2) rfl rfl rfl rfl (by conv => lhs; whnf) ?_
        refine GL.guardT rfl ?_
        refine GL.load I0.mono rfl rfl rfl rfl (by simp) (by rfl) rfl ?_
        refine GL.guardT rfl ?_
        refine GL.bin I0.mono rfl ?_
        refine GL.pick I0.mono rfl (by conv => lhs; whnf) ?_
        refine GL.assign I0.mono (by conv => lhs; whnf) ?_
        refine GL.doneF ?_
        refine goOn ?_
        refine Wp.seqI ?_
        refine Wp.regI I0.mono ?_
        refine GL.loadW I0.mono (n := 4) rfl rfl rfl rfl (by simp) (by rfl) rfl rfl ?_
        refine GL.loadW I0.mono (n := 5) rfl rfl rfl rfl (by simp) (by rfl) rfl rfl ?_
        refine GL.callM0 I0.mono rfl (Frz.aggc (by exact Frz.pures rfl) (Frz.aggc (by exact (Frz.aggc (by exact Frz.pure rfl) (Frz.aggc (by exact Frz.pure rfl) (Frz.aggc (by exact Frz.whole rfl rfl rfl rfl (by exact em_len _ _)) (Frz.aggc (by exact Frz.whole rfl rfl rfl rfl (by exact em_len _ _)) (Frz.aggc (by exact Frz.pure rfl) Frz.aggn)))))) (Frz.aggn))) (hR _ _ _ (by exact Nat.lt_of_le_of_lt hT0 (by decide)) (by exact Nat.lt_of_le_of_lt hT1 (by decide))) rfl rfl (fun _ => rfl) ?_
        refine GL.move I0.mono (by conv => lhs; whnf) ?_
        refine GL.bin I0.mono (v := .bool true) (congrArg (fun z => some (LV.bool z)) (by exact w3 h97 h104 h111)) ?_
        refine GL.move I0.mono (by conv => lhs; whnf) ?_
        refine GL.guardT rfl ?_
        refine GL.call0 I0.mono rfl (Frz.aggn) (wakes11_ok) rfl rfl (fun _ => rfl) ?_
        refine GL.pick I0.mono rfl (by conv => lhs; whnf) ?_
        refine GL.assign I0.mono (by conv => lhs; whnf) ?_
        refine GL.doneF ?_
        refine goOn ?_
        refine Wp.retI ?_
        refine RetX.ret ?_
        refine ⟨_, _, _, _, .cons (.tmp rfl) .nil, .frz (.pure rfl), List.nodup_nil, by simp, ?_⟩
        rfl
       ·rw [h111]
        skip
        refine GL.guardF rfl ?_
        refine GL.guardF rfl ?_
        refine GL.guardF rfl ?_
        refine GL.guardF rfl ?_
        refine GL.guardF rfl ?_
        refine GL.pick I0.mono rfl (by conv => lhs; whnf) ?_
        refine GL.assign I0.mono (by conv => lhs; whnf) ?_
        refine GL.doneF ?_
        refine goOn ?_
        refine Wp.seqI ?_
        refine Wp.regI I0.mono ?_
        refine GL.loadW I0.mono (n := 4) rfl rfl rfl rfl (by simp) (by rfl) rfl rfl ?_
        refine GL.loadW I0.mono (n := 5) rfl rfl rfl rfl (by simp) (by rfl) rfl rfl ?_
        refine GL.callM0 I0.mono rfl (Frz.aggc (by exact Frz.pures rfl) (Frz.aggc (by exact (Frz.aggc (by exact Frz.pure rfl) (Frz.aggc (by exact Frz.pure rfl) (Frz.aggc (by exact Frz.whole rfl rfl rfl rfl (by exact em_len _ _)) (Frz.aggc (by exact Frz.whole rfl rfl rfl rfl (by exact em_len _ _)) (Frz.aggc (by exact Frz.pure rfl) Frz.aggn)))))) (Frz.aggn))) (hR _ _ _ (by exact Nat.lt_of_le_of_lt hT0 (by decide)) (by exact Nat.lt_of_le_of_lt hT1 (by decide))) rfl rfl (fun _ => rfl) ?_
        refine GL.move I0.mono (by conv => lhs; whnf) ?_
        refine GL.bin I0.mono (v := .bool true) (congrArg (fun z => some (LV.bool z)) (by exact w2 h111)) ?_
        refine GL.move I0.mono (by conv => lhs; whnf) ?_
        refine GL.guardT rfl ?_
        refine GL.call0 I0.mono rfl (Frz.aggn) (wakes11_ok) rfl rfl (fun _ => rfl) ?_
        refine GL.pick I0.mono rfl (by conv => lhs; whnf) ?_
        refine GL.assign I0.mono (by conv => lhs; whnf) ?_
        refine GL.doneF ?_
        refine goOn ?_
        refine Wp.retI ?_
        refine RetX.ret ?_
        refine ⟨_, _, _, _, .cons (.tmp rfl) .nil, .frz (.pure rfl), List.nodup_nil, by simp, ?_⟩
        rfl
      ·rw [h104]
       skip
       refine GL.guardF rfl ?_
       refine GL.guardF rfl ?_
       refine GL.guardF rfl ?_
       refine GL.guardF rfl ?_
       refine GL.guardF rfl ?_
       refine GL.pick I0.mono rfl (by conv => lhs; whnf) ?_
       refine GL.move I0.mono (by conv => lhs; whnf) ?_
       refine GL.guardF rfl ?_
       refine GL.guardF rfl ?_
       refine GL.guardF rfl ?_
       refine GL.guardF rfl ?_
       refine GL.guardF rfl ?_
       refine GL.pick I0.mono rfl (by conv => lhs; whnf) ?_
       refine GL.assign I0.mono (by conv => lhs; whnf) ?_
       refine GL.doneF ?_
       refine goOn ?_
       refine Wp.seqI ?_
       refine Wp.regI I0.mono ?_
       refine GL.loadW I0.mono (n := 4) rfl rfl rfl rfl (by simp) (by rfl) rfl rfl ?_
       refine GL.loadW I0.mono (n := 5) rfl rfl rfl rfl (by simp) (by rfl) rfl rfl ?_
       refine GL.callM0 I0.mono rfl (Frz.aggc (by exact Frz.pures rfl) (Frz.aggc (by exact (Frz.aggc (by exact Frz.pure rfl) (Frz.aggc (by exact Frz.pure rfl) (Frz.aggc (by exact Frz.whole rfl rfl rfl rfl (by exact em_len _ _)) (Frz.aggc (by exact Frz.whole rfl rfl rfl rfl (by exact em_len _ _)) (Frz.aggc (by exact Frz.pure rfl) Frz.aggn)))))) (Frz.aggn))) (hR _ _ _ (by exact Nat.lt_of_le_of_lt hT0 (by decide)) (by exact Nat.lt_of_le_of_lt hT1 (by decide))) rfl rfl (fun _ => rfl) ?_
       refine GL.move I0.mono (by conv => lhs; whnf) ?_
       refine GL.bin I0.mono (v := .bool true) (congrArg (fun z => some (LV.bool z)) (by exact w1 h104)) ?_
       refine GL.move I0.mono (by conv => lhs; whnf) ?_
       refine GL.guardT rfl ?_
       refine GL.call0 I0.mono rfl (Frz.aggn) (wakes11_ok) rfl rfl (fun _ => rfl) ?_
       refine GL.pick I0.mono rfl (by conv => lhs; whnf) ?_
       refine GL.assign I0.mono (by conv => lhs; whnf) ?_
       refine GL.doneF ?_
       refine goOn ?_
       refine Wp.retI ?_
       refine RetX.ret ?_
       refine ⟨_, _, _, _, .cons (.tmp rfl) .nil, .frz (.pure rfl), List.nodup_nil, by simp, ?_⟩
       rfl
     ·rw [h97]
      skip
      refine GL.guardF rfl ?_
      refine GL.guardF rfl ?_
      refine GL.guardF rfl ?_
      refine GL.guardF rfl ?_
      refine GL.guardF rfl ?_
      refine GL.pick I0.mono rfl (by conv => lhs; whnf) ?_
      refine GL.move I0.mono (by conv => lhs; whnf) ?_
      refine GL.guardF rfl ?_
      refine GL.guardF rfl ?_
      refine GL.guardF rfl ?_
      refine GL.guardF rfl ?_
      refine GL.guardF rfl ?_
      refine GL.pick I0.mono rfl (by conv => lhs; whnf) ?_
      refine GL.move I0.mono (by conv => lhs; whnf) ?_
      refine GL.guardF rfl ?_
      refine GL.guardF rfl ?_
      refine GL.guardF rfl ?_
      refine GL.guardF rfl ?_
      refine GL.guardF rfl ?_
      refine GL.pick I0.mono rfl (by conv => lhs; whnf) ?_
      refine GL.assign I0.mono (by conv => lhs; whnf) ?_
      refine GL.doneF ?_
      refine goOn ?_
      refine Wp.seqI ?_
      refine Wp.regI I0.mono ?_
      refine GL.loadW I0.mono (n := 4) rfl rfl rfl rfl (by simp) (by rfl) rfl rfl ?_
      refine GL.loadW I0.mono (n := 5) rfl rfl rfl rfl (by simp) (by rfl) rfl rfl ?_
      refine GL.callM0 I0.mono rfl (Frz.aggc (by exact Frz.pures rfl) (Frz.aggc (by exact (Frz.aggc (by exact Frz.pure rfl) (Frz.aggc (by exact Frz.pure rfl) (Frz.aggc (by exact Frz.whole rfl rfl rfl rfl (by exact em_len _ _)) (Frz.aggc (by exact Frz.whole rfl rfl rfl rfl (by exact em_len _ _)) (Frz.aggc (by exact Frz.pure rfl) Frz.aggn)))))) (Frz.aggn))) (hR _ _ _ (by exact Nat.lt_of_le_of_lt hT0 (by decide)) (by exact Nat.lt_of_le_of_lt hT1 (by decide))) rfl rfl (fun _ => rfl) ?_
      refine GL.move I0.mono (by conv => lhs; whnf) ?_
      refine GL.bin I0.mono (v := .bool true) (congrArg (fun z => some (LV.bool z)) (by exact w0 h97)) ?_
      refine GL.move I0.mono (by conv => lhs; whnf) ?_
      refine GL.guardT rfl ?_
      refine GL.call0 I0.mono rfl (Frz.aggn) (wakes11_ok) rfl rfl (fun _ => rfl) ?_
      refine GL.pick I0.mono rfl (by conv => lhs; whnf) ?_
      refine GL.assign I0.mono (by conv => lhs; whnf) ?_
      refine GL.doneF ?_
      refine goOn ?_
      refine Wp.retI ?_
      refine RetX.ret ?_
      refine ⟨_, _, _, _, .cons (.tmp rfl) .nil, .frz (.pure rfl), List.nodup_nil, by simp, ?_⟩
      rfl
  ·skip
   refine Wp.skipI ?_
   refine goOn ?_
   refine Wp.seqI ?_
   refine Wp.regI I0.mono ?_
   refine GL.move I0.mono (by conv => lhs; whnf) ?_
   refine GL.move I0.mono (by conv => lhs; whnf) ?_
   refine GL.splitAt 97 rfl (fun h97 => ?_) (fun h97 => ?_)
   ·rw [h97]
    skip
    refine GL.guardT rfl ?_
    refine GL.fieldAddr I0.mono (o := 2) rfl rfl rfl rfl (by conv => lhs; whnf) ?_
    refine GL.guardT rfl ?_
    refine GL.load I0.mono rfl rfl rfl rfl (by simp) (by rfl) rfl ?_
    refine GL.guardT rfl ?_
    refine GL.fieldAddr I0.mono (o := 0) rfl rfl rfl rfl (by conv => lhs; whnf) ?_
    refine GL.guardT rfl ?_
    refine GL.load I0.mono rfl rfl rfl rfl (by simp) (by rfl) rfl ?_
    refine GL.guardT rfl ?_
    refine GL.callM0 I0.mono rfl (Frz.aggc (by exact Frz.pure rfl) (Frz.aggc (by exact Frz.pure rfl) (Frz.aggn))) (same_big _ _ (by omega) (by unfold Short; omega)) rfl rfl (fun _ => rfl) ?_
    refine GL.pick I0.mono rfl (by conv => lhs; whnf) ?_
    refine GL.move I0.mono (by conv => lhs; whnf) ?_
    refine GL.splitAt 104 rfl (fun h104 => ?_) (fun h104 => ?_)
    ·rw [h104]
     skip
     refine GL.guardT rfl ?_
     refine GL.fieldAddr I0.mono (o := 3) rfl rfl rfl rfl (by conv => lhs; whnf) ?_
     refine GL.guardT rfl ?_
     refine GL.load I0.mono rfl rfl rfl rfl (by simp) (by rfl) rfl ?_
     refine GL.guardT rfl ?_
     refine GL.fieldAddr I0.mono (o := 1) rfl rfl rfl rfl (by conv => lhs; whnf) ?_
     refine GL.guardT rfl ?_
     refine GL.load I0.mono rfl rfl rfl rfl (by simp) (by rfl) rfl ?_
     refine GL.guardT rfl ?_
     refine GL.callM0 I0.mono rfl (Frz.aggc (by exact Frz.pure rfl) (Frz.aggc (by exact Frz.pure rfl) (Frz.aggn))) (same_big _ _ (by omega) (by unfold Short; omega)) rfl rfl (fun _ => rfl) ?_
     refine GL.pick I0.mono rfl (by conv => lhs; whnf) ?_
     refine GL.move I0.mono (by conv => lhs; whnf) ?_
     refine GL.splitAt 111 rfl (fun h111 => ?_) (fun h111 => ?_)
     ·rw [h111]
      skip
      refine GL.guardT rfl ?_
      refine GL.fieldAddr I0.mono (o := 4) rfl rfl rfl rfl (by conv => lhs; whnf) ?_
      refine GL.guardT rfl ?_
      refine GL.load I0.mono rfl rfl rfl rfl (by simp) (by rfl) rfl ?_
      refine GL.guardT rfl ?_
      refine GL.fieldAddr I0.mono (o := 2) rfl rfl rfl rfl (by conv => lhs; whnf) ?_
      refine GL.guardT rfl ?_
      refine GL.load I0.mono rfl rfl rfl rfl (by simp) (by rfl) rfl ?_
      refine GL.guardT rfl ?_
      refine GL.bin I0.mono rfl ?_
      refine GL.pick I0.mono rfl (by conv => lhs; whnf) ?_
      refine GL.assign I0.mono (by conv => lhs; whnf) ?_
      refine GL.doneF ?_
      refine goOn ?_
      refine Wp.seqI ?_
      refine Wp.regI I0.mono ?_
      refine GL.loadW I0.mono (n := 4) rfl rfl rfl rfl (by simp) (by rfl) rfl rfl ?_
      refine GL.loadW I0.mono (n := 5) rfl rfl rfl rfl (by simp) (by rfl) rfl rfl ?_
      refine GL.callM0 I0.mono rfl (Frz.aggc (by exact Frz.pures rfl) (Frz.aggc (by exact Frz.pures rfl) (Frz.aggn))) (hR _ _ _ (by omega) (by omega)) rfl rfl (fun _ => rfl) ?_
      refine GL.move I0.mono (by conv => lhs; whnf) ?_
      refine GL.bin I0.mono (v := .bool true) (congrArg (fun z => some (LV.bool z)) (by exact w3 h97 h104 h111)) ?_
      refine GL.move I0.mono (by conv => lhs; whnf) ?_
      refine GL.guardT rfl ?_
      refine GL.call0 I0.mono rfl (Frz.aggn) (wakes11_ok) rfl rfl (fun _ => rfl) ?_
      refine GL.pick I0.mono rfl (by conv => lhs; whnf) ?_
      refine GL.assign I0.mono (by conv => lhs; whnf) ?_
      refine GL.doneF ?_
      refine goOn ?_
      refine Wp.retI ?_
      refine RetX.ret ?_
      refine ⟨_, _, _, _, .cons (.tmp rfl) .nil, .frz (.pure rfl), List.nodup_nil, by simp, ?_⟩
      rfl
     ·rw [h111]
      skip
      refine GL.guardF rfl ?_
      refine GL.guardF rfl ?_
      refine GL.guardF rfl ?_
      refine GL.guardF rfl ?_
      refine GL.guardF rfl ?_
      refine GL.pick I0.mono rfl (by conv => lhs; whnf) ?_
      refine GL.assign I0.mono (by conv => lhs; whnf) ?_
      refine GL.doneF ?_
      refine goOn ?_
      refine Wp.seqI ?_
      refine Wp.regI I0.mono ?_
      refine GL.loadW I0.mono (n := 4) rfl rfl rfl rfl (by simp) (by rfl) rfl rfl ?_
      refine GL.loadW I0.mono (n := 5) rfl rfl rfl rfl (by simp) (by rfl) rfl rfl ?_
      refine GL.callM0 I0.mono rfl (Frz.aggc (by exact Frz.pures rfl) (Frz.aggc (by exact Frz.pures rfl) (Frz.aggn))) (hR _ _ _ (by omega) (by omega)) rfl rfl (fun _ => rfl) ?_
      refine GL.move I0.mono (by conv => lhs; whnf) ?_
      refine GL.bin I0.mono (v := .bool true) (congrArg (fun z => some (LV.bool z)) (by exact w2 h111)) ?_
      refine GL.move I0.mono (by conv => lhs; whnf) ?_
      refine GL.guardT rfl ?_
      refine GL.call0 I0.mono rfl (Frz.aggn) (wakes11_ok) rfl rfl (fun _ => rfl) ?_
      refine GL.pick I0.mono rfl (by conv => lhs; whnf) ?_
      refine GL.assign I0.mono (by conv => lhs; whnf) ?_
      refine GL.doneF ?_
      refine goOn ?_
      refine Wp.retI ?_
      refine RetX.ret ?_
      refine ⟨_, _, _, _, .cons (.tmp rfl) .nil, .frz (.pure rfl), List.nodup_nil, by simp, ?_⟩
      rfl
    ·rw [h104]
     skip
     refine GL.guardF rfl ?_
     refine GL.guardF rfl ?_
     refine GL.guardF rfl ?_
     refine GL.guardF rfl ?_
     refine GL.guardF rfl ?_
     refine GL.pick I0.mono rfl (by conv => lhs; whnf) ?_
     refine GL.move I0.mono (by conv => lhs; whnf) ?_
     refine GL.guardF rfl ?_
     refine GL.guardF rfl ?_
     refine GL.guardF rfl ?_
     refine GL.guardF rfl ?_
     refine GL.guardF rfl ?_
     refine GL.pick I0.mono rfl (by conv => lhs; whnf) ?_
     refine GL.assign I0.mono (by conv => lhs; whnf) ?_
     refine GL.doneF ?_
     refine goOn ?_
     refine Wp.seqI ?_
     refine Wp.regI I0.mono ?_
     refine GL.loadW I0.mono (n := 4) rfl rfl rfl rfl (by simp) (by rfl) rfl rfl ?_
     refine GL.loadW I0.mono (n := 5) rfl rfl rfl rfl (by simp) (by rfl) rfl rfl ?_
     refine GL.callM0 I0.mono rfl (Frz.aggc (by exact Frz.pures rfl) (Frz.aggc (by exact Frz.pures rfl) (Frz.aggn))) (hR _ _ _ (by omega) (by omega)) rfl rfl (fun _ => rfl) ?_
     refine GL.move I0.mono (by conv => lhs; whnf) ?_
     refine GL.bin I0.mono (v := .bool true) (congrArg (fun z => some (LV.bool z)) (by exact w1 h104)) ?_
     refine GL.move I0.mono (by conv => lhs; whnf) ?_
     refine GL.guardT rfl ?_
     refine GL.call0 I0.mono rfl (Frz.aggn) (wakes11_ok) rfl rfl (fun _ => rfl) ?_
     refine GL.pick I0.mono rfl (by conv => lhs; whnf) ?_
     refine GL.assign I0.mono (by conv => lhs; whnf) ?_
     refine GL.doneF ?_
     refine goOn ?_
     refine Wp.retI ?_
     refine RetX.ret ?_
     refine ⟨_, _, _, _, .cons (.tmp rfl) .nil, .frz (.pure rfl), List.nodup_nil, by simp, ?_⟩
     rfl
   ·rw [h97]
    skip
    refine GL.guardF rfl ?_
    refine GL.guardF rfl ?_
    refine GL.guardF rfl ?_
    refine GL.guardF rfl ?_
    refine GL.guardF rfl ?_
    refine GL.pick I0.mono rfl (by conv => lhs; whnf) ?_
    refine GL.move I0.mono (by conv => lhs; whnf) ?_
    refine GL.guardF rfl ?_
    refine GL.guardF rfl ?_
    refine GL.guardF rfl ?_
    refine GL.guardF rfl ?_
    refine GL.guardF rfl ?_
    refine GL.pick I0.mono rfl (by conv => lhs; whnf) ?_
    refine GL.move I0.mono (by conv => lhs; whnf) ?_
    refine GL.guardF rfl ?_
    refine GL.guardF rfl ?_
    refine GL.guardF rfl ?_
    refine GL.guardF rfl ?_
    refine GL.guardF rfl ?_
    refine GL.pick I0.mono rfl (by conv => lhs; whnf) ?_
    refine GL.assign I0.mono (by conv => lhs; whnf) ?_
    refine GL.doneF ?_
    refine goOn ?_
    refine Wp.seqI ?_
    refine Wp.regI I0.mono ?_
    refine GL.loadW I0.mono (n := 4) rfl rfl rfl rfl (by simp) (by rfl) rfl rfl ?_
    refine GL.loadW I0.mono (n := 5) rfl rfl rfl rfl (by simp) (by rfl) rfl rfl ?_
    refine GL.callM0 I0.mono rfl (Frz.aggc (by exact Frz.pures rfl) (Frz.aggc (by exact Frz.pures rfl) (Frz.aggn))) (hR _ _ _ (by omega) (by omega)) rfl rfl (fun _ => rfl) ?_
    refine GL.move I0.mono (by conv => lhs; whnf) ?_
    refine GL.bin I0.mono (v := .bool true) (congrArg (fun z => some (LV.bool z)) (by exact w0 h97)) ?_
    refine GL.move I0.mono (by conv => lhs; whnf) ?_
    refine GL.guardT rfl ?_
    refine GL.call0 I0.mono rfl (Frz.aggn) (wakes11_ok) rfl rfl (fun _ => rfl) ?_
    refine GL.pick I0.mono rfl (by conv => lhs; whnf) ?_
    refine GL.assign I0.mono (by conv => lhs; whnf) ?_
    refine GL.doneF ?_
    refine goOn ?_
    refine Wp.retI ?_
    refine RetX.ret ?_
    refine ⟨_, _, _, _, .cons (.tmp rfl) .nil, .frz (.pure rfl), List.nodup_nil, by simp, ?_⟩
    rfl


theorem right_eq (I : Inst) (c : Int) (r A L : List Int) (x : Int) : Mv.right I ⟨c, r, A, L, x⟩ = ((eval I c r).isSome && (decide (A = ((eval I c r).getD zeroT).t0) && (decide (L = ((eval I c r).getD zeroT).t1) && (x == ((eval I c r).getD zeroT).t2)))) := by
  unfold Mv.right
  cases he : eval I c r with
  | none => simp [he]
  | some T =>
    simp only [he, Option.isSome_some, Option.getD_some, Bool.true_and]
    rw [Bool.eq_iff_iff]
    simp only [Bool.and_eq_true, decide_eq_true_eq, beq_iff_eq]
    constructor
    · rintro ⟨⟨h1, h2⟩, h3⟩
      exact ⟨h1.symm, h2.symm, h3.symm⟩
    · rintro ⟨h1, h2, h3⟩
      exact ⟨⟨h1.symm, h2.symm⟩, h3.symm⟩
theorem right_at {I : Inst} (hs : I.Short) (c : Int) (r : List Int) (hr : r.length ≤ 14) (A L : List Int) (x : Int) (hA : A.length < 9223372036854775808) (hL : L.length < 9223372036854775808) : CallsV Try.prog 59 [ei I, ec ⟨c, r, A, L, x⟩] (.bool ((eval I c r).isSome && (decide (A = ((eval I c r).getD zeroT).t0) && (decide (L = ((eval I c r).getD zeroT).t1) && (x == ((eval I c r).getD zeroT).t2))))) := by
  have h1 := eval_len (i := I) (car := c) (l := r)
  have := right_is I hs ⟨c, r, A, L, x⟩ (by show r.length < _; omega) hA hL fun T hT => by
    have hT' : eval I c r = some T := hT
    rw [hT'] at h1
    exact ⟨by unfold Short; exact Nat.lt_of_le_of_lt h1.1 (by omega), by unfold Short; exact Nat.lt_of_le_of_lt h1.2 (by omega)⟩
  rwa [right_eq] at this
theorem law_CertOnly (z0 : List Int) (h0 : Ints z0) (z1 : List Int) (h1 : Ints z1) (A0 : List Int) (hA : Ints A0) (L0 : List Int) (hL : Ints L0) (car0 cost0 : Int) (near : Bool) : CallsV Try.prog 21 [.sl (em ni z0), .sl (em ni z1), .sl (em ni A0), .sl (em ni L0), .int .i64 car0, .int .i64 cost0, .bool near] (.bool true) := by
  have hb := inst_sb z0
  have hr := row_short (instOf z0) z1
  have hl := eval_len (i := instOf z0) (car := within car0 ((instOf z0).cars.length + 1)) (l := rowOf (instOf z0) z1)
  refine co_walk z0 z1 A0 L0 car0 cost0 near (instOf z0) hb.sq.short hb.sq.cars1 (inst_ok z0 h0) _ (row_ok _ hb.sq.short z1 h1) hr _ rfl _ _ (reval_ok _ _ hb (inst_sp z0) _ _ (by omega)) (Nat.le_trans hl.1 hr) (Nat.le_trans hl.2 hr) (Nat.lt_of_le_of_lt hA.len (by decide)) (Nat.lt_of_le_of_lt hL.len (by decide)) fun A L x e1 e2 => right_at hb.sq.short _ _ hr A L x e1 e2

end Go.Proofs.Ytpepcfombibpeaa
