/- An edit done, each stop once: walked. -/
import Derived.Test.YtffnlhjdlhpmjaaProg
import Derived.Test.YtffnlhjdlhpmjaaLg
import Derived.KernelRfl
set_option linter.all false
namespace Go.Proofs.Ytffnlhjdlhpmjaa
open Go.Proofs Mv
theorem there_at {p : Plan} {d : Delta} (h : thereB p d = true) : (∀ t ∈ d.turns, 0 ≤ t.car ∧ t.car < p.routes.length ∧ ∀ s ∈ t.after, 1 ≤ s ∧ s < p.lock.length) ∧ (∀ h ∈ d.locks, 1 ≤ h.n ∧ h.n < p.lock.length) ∧ ∀ h ∈ d.ices, 0 ≤ h.n ∧ h.n < p.routes.length := by
  simp only [thereB, turnIn, carIn, stopIn, Bool.and_eq_true, List.all_eq_true, decide_eq_true_eq] at h
  exact ⟨fun t ht => ⟨(h.1 t ht).1.1, (h.1 t ht).1.2, (h.1 t ht).2⟩, h.2.1, h.2.2⟩

set_option maxRecDepth 100000 in
set_option maxHeartbeats 4000000 in
theorem done_ok (p : Plan) (hp : OkP p) (d : Delta) (hd : OkD d) (ht : thereB p d = true) (hw : p.routes.length ≤ p.ice.length) : CallsV Try.prog 88 [.agg (kp p), .agg (kd d)] (kpo (doneP p d)) := by
  refine CallsR.intro (I0.sound _) mix Try.func88 rfl rfl (by simp [Try.f88]) (by kernel_rfl) (nb := 0) ?_
  unfold Try.f88
  refine Wp.seqI ?_
  obtain ⟨t1, t2, t3⟩ := there_at ht
  obtain ⟨p1, p2, p3, p4, p5, p6, p7⟩ := hp
  obtain ⟨d1, d2, d3, d4⟩ := hd
  refine Wp.regI I0.mono ?_
  refine GL.box I0.mono (by conv => lhs; whnf) rfl (n := 7) rfl rfl ?_
  intro g2
  refine GL.box I0.mono (by conv => lhs; whnf) rfl (n := 3) rfl rfl ?_
  intro g3
  refine GL.alloc I0.mono (cs := [LV.nils, LV.nils, LV.nils, LV.nils, LV.nils, LV.nils, LV.int .i64 0]) rfl rfl ?_
  intro g4
  refine GL.doneF ?_
  refine goOn ?_
  refine Wp.seqI ?_
  refine Wp.regI I0.mono ?_
  refine GL.loadW I0.mono (n := 7) rfl rfl rfl rfl (by simp) rfl rfl rfl ?_
  refine GL.callN I0.mono rfl (Frz.aggc (Frz.pures rfl) Frz.aggn) (copyP_ok p ⟨p1, p2, p3, p4, p5, p6, p7⟩) rfl rfl (imp_kpo _ _ _) ?_
  refine GL.alloc I0.mono (cs := [LV.nils, LV.nils, LV.nils, LV.nils, LV.nils, LV.nils, LV.int .i64 0]) rfl rfl ?_
  intro g5
  refine GL.storeW I0.mono (n := 7) rfl rfl rfl rfl rfl rfl rfl (by conv => lhs; whnf) rfl rfl rfl ?_
  refine GL.doneF ?_
  refine goOn ?_
  refine Wp.seqI ?_
  refine Wp.seqI ?_
  refine Wp.regI I0.mono ?_
  refine GL.fieldAddr I0.mono (o := 0) rfl rfl rfl rfl (by conv => lhs; whnf) ?_
  refine GL.load I0.mono rfl rfl rfl rfl (by simp) rfl rfl ?_
  refine GL.lenF I0.mono rfl rfl (em_len _ _) ?_
  refine GL.move I0.mono (by conv => lhs; whnf) ?_
  refine GL.doneF ?_
  refine goOn ?_
  refine Wp.blockI ?_
  refine Wp.loopI I0.mono (α := Nat × List (List Int)) (fun ⟨i, R⟩ st => (i ≤ d.turns.length ∧ R = setR p.routes (d.turns.take i)) ∧ ∃ m0, st = ⟨(updS (updS (updS (updS (updS (updS (updS (fun _ => LV.undef) 2 (.ref 128 g2 0 0)) 3 (.ref 192 g3 0 0)) 4 (.ref 256 g4 0 0)) 5 (.ref 320 g5 0 0)) 15 (.sl (em kt d.turns))) 16 (.int .i64 (d.turns.length : Int))) 17 (.int .i64 (i : Int))), effM m0 [(128, ⟨g2, false, .var, 7, [kp p]⟩), (192, ⟨g3, false, .var, 3, [kd d]⟩), (256, ⟨g4, false, .var, 7, [[.nils, .nils, .nils, .nils, .nils, .nils, .int .i64 0]]⟩), (320, ⟨g5, false, .var, 7, [[.own 832 0 0 p.routes.length none, .own 833 0 0 p.lock.length none, .own 834 0 0 p.ice.length none, .own 835 0 0 p.rv.length none, .own 836 0 0 p.sv.length none, .own 837 0 0 p.iv.length none, .int .i64 p.pv]]⟩), (832, ⟨0, false, .slc, 1, em nr R⟩), (833, ⟨0, false, .slc, 1, em ni p.lock⟩), (834, ⟨0, false, .slc, 1, em ni p.ice⟩), (835, ⟨0, false, .slc, 1, em ni p.rv⟩), (836, ⟨0, false, .slc, 1, em ni p.sv⟩), (837, ⟨0, false, .slc, 1, em ni p.iv⟩)]⟩) (fun ⟨i, R⟩ => d.turns.length - i) ⟨0, p.routes⟩ ⟨_, (LessS.weak (LessS.upd (LessS.upd (LessS.upd (LessS.upd (LessS.upd (LessS.upd (LessS.upd (LessS.nil _) rfl) rfl) rfl) rfl) rfl) rfl) rfl) _), ⟨Nat.zero_le _, rfl⟩, _, (congrArg (St.mk _) (effM_eq (Has.cons rfl (Has.cons rfl (Has.cons rfl (Has.cons rfl (Has.cons rfl (Has.cons rfl (Has.cons rfl (Has.cons rfl (Has.cons rfl (Has.cons rfl Has.nil))))))))))).symm)⟩ ?_
  rintro ⟨i, R⟩ _ ⟨⟨hi, hR⟩, m0, rfl⟩
  have hRl : R.length = p.routes.length := by rw [hR, setR_len]
  refine Wp.seqI ?_
  refine Wp.regI I0.mono ?_
  refine GL.bin I0.mono rfl ?_
  refine GL.doneF ?_
  refine goOn ?_
  refine Wp.seqI ?_
  refine Wp.condI rfl (fun h18 => ?_) (fun h18 => ?_)
  ·replace h18 := of_decide_eq_true h18
   have hm := getD_mem (l := d.turns) (j := i) (by omega)
   have hc := t1 _ hm
   refine Wp.skipI ?_
   refine goOn ?_
   refine Wp.seqI ?_
   refine Wp.blockI ?_
   refine Wp.seqI ?_
   refine Wp.regI I0.mono ?_
   refine GL.indexAddrF I0.mono (sz := 3) rfl rfl rfl rfl (by omega) (by (rw [em_len]; omega)) (by intro e he; obtain ⟨a, -, rfl⟩ := List.mem_map.1 he; rfl) (by with_reducible exact Int.toNat_natCast _) ?_
   refine GL.loadFW I0.mono (n := 3) rfl rfl (em_get (by omega)) rfl rfl ?_
   refine GL.alloc I0.mono (cs := [LV.int .i64 0, LV.nils, LV.nils]) rfl rfl ?_
   intro g7
   refine GL.storeW I0.mono (n := 3) rfl rfl rfl rfl rfl rfl rfl (by conv => lhs; whnf) rfl rfl rfl ?_
   refine GL.doneF ?_
   refine goOn ?_
   refine Wp.regD ?_
   refine GL.fieldAddr I0.mono (o := 0) rfl rfl rfl rfl (by conv => lhs; whnf) ?_
   refine GL.load I0.mono rfl rfl rfl rfl (by simp) rfl rfl ?_
   refine GL.fieldAddr I0.mono (o := 0) rfl rfl rfl rfl (by conv => lhs; whnf) ?_
   refine GL.load I0.mono rfl rfl rfl rfl (by simp) rfl rfl ?_
   refine GL.fieldAddr I0.mono (o := 2) rfl rfl rfl rfl (by conv => lhs; whnf) ?_
   refine GL.load I0.mono rfl rfl rfl rfl (by simp) rfl rfl ?_
   refine GL.call0 I0.mono rfl (Frz.aggc (by exact Frz.pure rfl) (Frz.aggn)) (cloneF _ (by have := (d4 _ hm).2; omega)) rfl rfl (fun _ => rfl) ?_
   refine GL.indexAddr I0.mono (sz := 1) (j := (d.turns.getD i default).car.toNat) rfl rfl rfl rfl rfl rfl rfl rfl (by omega) (by omega) (by omega) ?_
   refine GL.storeS I0.mono (n := 1) rfl rfl rfl rfl rfl rfl (em_get (by omega)) rfl rfl rfl rfl (Nat.le_of_ble_eq_true rfl) rfl (em_set nr _ _ (d.turns.getD i default).after) ?_
   refine GL.doneT (by kernel_rfl) ?_
   refine blockX.normal ?_
   refine goOn ?_
   refine Wp.regI I0.mono ?_
   refine GL.addR I0.mono rfl rfl (by omega) ?_
   refine GL.move I0.mono (by conv => lhs; whnf) ?_
   refine GL.doneF ?_
   refine ⟨⟨i + 1, _⟩, (by dsimp only; omega), _, (LessS.weak (LessS.upd (LessS.upd (LessS.upd (LessS.upd (LessS.upd (LessS.upd (LessS.upd (LessS.nil _) rfl) rfl) rfl) rfl) rfl) rfl) rfl) _), ⟨by omega, by rw [setR_snoc _ _ (by omega), ← hR, setR1, if_pos (by omega)]⟩, _, (congrArg (St.mk _) (effM_eq (Has.cons rfl (Has.cons rfl (Has.cons rfl (Has.cons rfl (Has.cons rfl (Has.cons rfl (Has.cons rfl (Has.cons rfl (Has.cons rfl (Has.cons rfl Has.nil))))))))))).symm)⟩
  ·replace h18 := of_decide_eq_false h18
   refine Wp.exitI ?_
   refine thenX.exit ?_
   refine thenX.exit ?_
   refine blockX.out ?_
   refine goOn ?_
   refine Wp.seqI ?_
   refine Wp.seqI ?_
   refine Wp.regI I0.mono ?_
   refine GL.fieldAddr I0.mono (o := 1) rfl rfl rfl rfl (by conv => lhs; whnf) ?_
   refine GL.load I0.mono rfl rfl rfl rfl (by simp) rfl rfl ?_
   refine GL.lenF I0.mono rfl rfl (em_len _ _) ?_
   refine GL.move I0.mono (by conv => lhs; whnf) ?_
   refine GL.doneF ?_
   refine goOn ?_
   refine Wp.blockI ?_
   refine Wp.loopI I0.mono (α := Nat × List Int) (fun ⟨i, L⟩ st => (i ≤ d.locks.length ∧ L = setLs p.lock (d.locks.take i)) ∧ ∃ m0, st = ⟨(updS (updS (updS (updS (updS (updS (updS (fun _ => LV.undef) 2 (.ref 128 g2 0 0)) 3 (.ref 192 g3 0 0)) 4 (.ref 256 g4 0 0)) 5 (.ref 320 g5 0 0)) 31 (.sl (em kh d.locks))) 32 (.int .i64 (d.locks.length : Int))) 33 (.int .i64 (i : Int))), effM m0 [(128, ⟨g2, false, .var, 7, [kp p]⟩), (192, ⟨g3, false, .var, 3, [kd d]⟩), (256, ⟨g4, false, .var, 7, [[.nils, .nils, .nils, .nils, .nils, .nils, .int .i64 0]]⟩), (320, ⟨g5, false, .var, 7, [[.own 832 0 0 p.routes.length none, .own 833 0 0 p.lock.length none, .own 834 0 0 p.ice.length none, .own 835 0 0 p.rv.length none, .own 836 0 0 p.sv.length none, .own 837 0 0 p.iv.length none, .int .i64 p.pv]]⟩), (832, ⟨0, false, .slc, 1, em nr R⟩), (833, ⟨0, false, .slc, 1, em ni L⟩), (834, ⟨0, false, .slc, 1, em ni p.ice⟩), (835, ⟨0, false, .slc, 1, em ni p.rv⟩), (836, ⟨0, false, .slc, 1, em ni p.sv⟩), (837, ⟨0, false, .slc, 1, em ni p.iv⟩)]⟩) (fun ⟨i, L⟩ => d.locks.length - i) ⟨0, p.lock⟩ ⟨_, (LessS.weak (LessS.upd (LessS.upd (LessS.upd (LessS.upd (LessS.upd (LessS.upd (LessS.upd (LessS.nil _) rfl) rfl) rfl) rfl) rfl) rfl) rfl) _), ⟨Nat.zero_le _, rfl⟩, _, (congrArg (St.mk _) (effM_eq (Has.cons rfl (Has.cons rfl (Has.cons rfl (Has.cons rfl (Has.cons rfl (Has.cons rfl (Has.cons rfl (Has.cons rfl (Has.cons rfl (Has.cons rfl Has.nil))))))))))).symm)⟩ ?_
   rintro ⟨i, L⟩ _ ⟨⟨hi2, hL⟩, m0, rfl⟩
   have hLl : L.length = p.lock.length := by rw [hL, setLs_len]
   refine Wp.seqI ?_
   refine Wp.regI I0.mono ?_
   refine GL.bin I0.mono rfl ?_
   refine GL.doneF ?_
   refine goOn ?_
   refine Wp.seqI ?_
   refine Wp.condI rfl (fun h34 => ?_) (fun h34 => ?_)
   ·replace h34 := of_decide_eq_true h34
    have hc := t2 _ (getD_mem (l := d.locks) (j := i) (by omega))
    refine Wp.skipI ?_
    refine goOn ?_
    refine Wp.seqI ?_
    refine Wp.blockI ?_
    refine Wp.seqI ?_
    refine Wp.regI I0.mono ?_
    refine GL.indexAddrF I0.mono (sz := 3) rfl rfl rfl rfl (by omega) (by (rw [em_len]; omega)) (by intro e he; obtain ⟨a, -, rfl⟩ := List.mem_map.1 he; rfl) (by with_reducible exact Int.toNat_natCast _) ?_
    refine GL.loadFW I0.mono (n := 3) rfl rfl (em_get (by omega)) rfl rfl ?_
    refine GL.alloc I0.mono (cs := [LV.int .i64 0, LV.int .i64 0, LV.int .i64 0]) rfl rfl ?_
    intro g9
    refine GL.storeW I0.mono (n := 3) rfl rfl rfl rfl rfl rfl rfl (by conv => lhs; whnf) rfl rfl rfl ?_
    refine GL.doneF ?_
    refine goOn ?_
    refine Wp.regI I0.mono ?_
    refine GL.fieldAddr I0.mono (o := 1) rfl rfl rfl rfl (by conv => lhs; whnf) ?_
    refine GL.load I0.mono rfl rfl rfl rfl (by simp) rfl rfl ?_
    refine GL.fieldAddr I0.mono (o := 0) rfl rfl rfl rfl (by conv => lhs; whnf) ?_
    refine GL.load I0.mono rfl rfl rfl rfl (by simp) rfl rfl ?_
    refine GL.fieldAddr I0.mono (o := 2) rfl rfl rfl rfl (by conv => lhs; whnf) ?_
    refine GL.load I0.mono rfl rfl rfl rfl (by simp) rfl rfl ?_
    refine GL.indexAddr I0.mono (sz := 1) (j := (d.locks.getD i default).n.toNat) rfl rfl rfl rfl rfl rfl rfl rfl (by omega) (by omega) (by omega) ?_
    refine GL.storeS I0.mono (n := 1) rfl rfl rfl rfl rfl rfl (em_get (by omega)) rfl rfl rfl rfl (Nat.le_of_ble_eq_true rfl) rfl (em_set ni _ _ (d.locks.getD i default).after) ?_
    refine GL.doneF ?_
    refine blockX.normal ?_
    refine goOn ?_
    refine Wp.regI I0.mono ?_
    refine GL.addR I0.mono rfl rfl (by omega) ?_
    refine GL.move I0.mono (by conv => lhs; whnf) ?_
    refine GL.doneF ?_
    refine ⟨⟨i + 1, _⟩, (by dsimp only; omega), _, (LessS.weak (LessS.upd (LessS.upd (LessS.upd (LessS.upd (LessS.upd (LessS.upd (LessS.upd (LessS.nil _) rfl) rfl) rfl) rfl) rfl) rfl) rfl) _), ⟨by omega, by rw [setLs_snoc _ _ (by omega), ← hL, setL1]⟩, _, (congrArg (St.mk _) (effM_eq (Has.cons rfl (Has.cons rfl (Has.cons rfl (Has.cons rfl (Has.cons rfl (Has.cons rfl (Has.cons rfl (Has.cons rfl (Has.cons rfl (Has.cons rfl Has.nil))))))))))).symm)⟩
   ·replace h34 := of_decide_eq_false h34
    refine Wp.exitI ?_
    refine thenX.exit ?_
    refine thenX.exit ?_
    refine blockX.out ?_
    refine goOn ?_
    refine Wp.seqI ?_
    refine Wp.seqI ?_
    refine Wp.regI I0.mono ?_
    refine GL.fieldAddr I0.mono (o := 2) rfl rfl rfl rfl (by conv => lhs; whnf) ?_
    refine GL.load I0.mono rfl rfl rfl rfl (by simp) rfl rfl ?_
    refine GL.lenF I0.mono rfl rfl (em_len _ _) ?_
    refine GL.move I0.mono (by conv => lhs; whnf) ?_
    refine GL.doneF ?_
    refine goOn ?_
    refine Wp.blockI ?_
    refine Wp.loopI I0.mono (α := Nat × List Int) (fun ⟨i, I⟩ st => (i ≤ d.ices.length ∧ I = setLs p.ice (d.ices.take i)) ∧ ∃ m0, st = ⟨(updS (updS (updS (updS (updS (updS (updS (fun _ => LV.undef) 2 (.ref 128 g2 0 0)) 3 (.ref 192 g3 0 0)) 4 (.ref 256 g4 0 0)) 5 (.ref 320 g5 0 0)) 46 (.sl (em kh d.ices))) 47 (.int .i64 (d.ices.length : Int))) 48 (.int .i64 (i : Int))), effM m0 [(128, ⟨g2, false, .var, 7, [kp p]⟩), (192, ⟨g3, false, .var, 3, [kd d]⟩), (256, ⟨g4, false, .var, 7, [[.nils, .nils, .nils, .nils, .nils, .nils, .int .i64 0]]⟩), (320, ⟨g5, false, .var, 7, [[.own 832 0 0 p.routes.length none, .own 833 0 0 p.lock.length none, .own 834 0 0 p.ice.length none, .own 835 0 0 p.rv.length none, .own 836 0 0 p.sv.length none, .own 837 0 0 p.iv.length none, .int .i64 p.pv]]⟩), (832, ⟨0, false, .slc, 1, em nr R⟩), (833, ⟨0, false, .slc, 1, em ni L⟩), (834, ⟨0, false, .slc, 1, em ni I⟩), (835, ⟨0, false, .slc, 1, em ni p.rv⟩), (836, ⟨0, false, .slc, 1, em ni p.sv⟩), (837, ⟨0, false, .slc, 1, em ni p.iv⟩)]⟩) (fun ⟨i, I⟩ => d.ices.length - i) ⟨0, p.ice⟩ ⟨_, (LessS.weak (LessS.upd (LessS.upd (LessS.upd (LessS.upd (LessS.upd (LessS.upd (LessS.upd (LessS.nil _) rfl) rfl) rfl) rfl) rfl) rfl) rfl) _), ⟨Nat.zero_le _, rfl⟩, _, (congrArg (St.mk _) (effM_eq (Has.cons rfl (Has.cons rfl (Has.cons rfl (Has.cons rfl (Has.cons rfl (Has.cons rfl (Has.cons rfl (Has.cons rfl (Has.cons rfl (Has.cons rfl Has.nil))))))))))).symm)⟩ ?_
    rintro ⟨i, I⟩ _ ⟨⟨hi4, hI⟩, m0, rfl⟩
    have hIl : I.length = p.ice.length := by rw [hI, setLs_len]
    refine Wp.seqI ?_
    refine Wp.regI I0.mono ?_
    refine GL.bin I0.mono rfl ?_
    refine GL.doneF ?_
    refine goOn ?_
    refine Wp.seqI ?_
    refine Wp.condI rfl (fun h49 => ?_) (fun h49 => ?_)
    ·replace h49 := of_decide_eq_true h49
     have hc := t3 _ (getD_mem (l := d.ices) (j := i) (by omega))
     refine Wp.skipI ?_
     refine goOn ?_
     refine Wp.seqI ?_
     refine Wp.blockI ?_
     refine Wp.seqI ?_
     refine Wp.regI I0.mono ?_
     refine GL.indexAddrF I0.mono (sz := 3) rfl rfl rfl rfl (by omega) (by (rw [em_len]; omega)) (by intro e he; obtain ⟨a, -, rfl⟩ := List.mem_map.1 he; rfl) (by with_reducible exact Int.toNat_natCast _) ?_
     refine GL.loadFW I0.mono (n := 3) rfl rfl (em_get (by omega)) rfl rfl ?_
     refine GL.alloc I0.mono (cs := [LV.int .i64 0, LV.int .i64 0, LV.int .i64 0]) rfl rfl ?_
     intro g11
     refine GL.storeW I0.mono (n := 3) rfl rfl rfl rfl rfl rfl rfl (by conv => lhs; whnf) rfl rfl rfl ?_
     refine GL.doneF ?_
     refine goOn ?_
     refine Wp.regI I0.mono ?_
     refine GL.fieldAddr I0.mono (o := 2) rfl rfl rfl rfl (by conv => lhs; whnf) ?_
     refine GL.load I0.mono rfl rfl rfl rfl (by simp) rfl rfl ?_
     refine GL.fieldAddr I0.mono (o := 0) rfl rfl rfl rfl (by conv => lhs; whnf) ?_
     refine GL.load I0.mono rfl rfl rfl rfl (by simp) rfl rfl ?_
     refine GL.fieldAddr I0.mono (o := 2) rfl rfl rfl rfl (by conv => lhs; whnf) ?_
     refine GL.load I0.mono rfl rfl rfl rfl (by simp) rfl rfl ?_
     refine GL.indexAddr I0.mono (sz := 1) (j := (d.ices.getD i default).n.toNat) rfl rfl rfl rfl rfl rfl rfl rfl (by omega) (by omega) (by omega) ?_
     refine GL.storeS I0.mono (n := 1) rfl rfl rfl rfl rfl rfl (em_get (by omega)) rfl rfl rfl rfl (Nat.le_of_ble_eq_true rfl) rfl (em_set ni _ _ (d.ices.getD i default).after) ?_
     refine GL.doneF ?_
     refine blockX.normal ?_
     refine goOn ?_
     refine Wp.regI I0.mono ?_
     refine GL.addR I0.mono rfl rfl (by omega) ?_
     refine GL.move I0.mono (by conv => lhs; whnf) ?_
     refine GL.doneF ?_
     refine ⟨⟨i + 1, _⟩, (by dsimp only; omega), _, (LessS.weak (LessS.upd (LessS.upd (LessS.upd (LessS.upd (LessS.upd (LessS.upd (LessS.upd (LessS.nil _) rfl) rfl) rfl) rfl) rfl) rfl) rfl) _), ⟨by omega, by rw [setLs_snoc _ _ (by omega), ← hI, setL1]⟩, _, (congrArg (St.mk _) (effM_eq (Has.cons rfl (Has.cons rfl (Has.cons rfl (Has.cons rfl (Has.cons rfl (Has.cons rfl (Has.cons rfl (Has.cons rfl (Has.cons rfl (Has.cons rfl Has.nil))))))))))).symm)⟩
    ·replace h49 := of_decide_eq_false h49
     refine Wp.exitI ?_
     refine thenX.exit ?_
     refine thenX.exit ?_
     refine blockX.out ?_
     refine goOn ?_
     refine Wp.seqI ?_
     refine Wp.regI I0.mono ?_
     refine GL.loadW I0.mono (n := 7) rfl rfl rfl rfl (by simp) rfl rfl rfl ?_
     refine GL.storeW I0.mono (n := 7) rfl rfl rfl rfl rfl rfl rfl (by conv => lhs; whnf) rfl rfl rfl ?_
     refine GL.doneF ?_
     refine goOn ?_
     refine Wp.retI ?_
     refine RetX.ret ?_
     have e1 : R = setR p.routes d.turns := by rw [hR, List.take_of_length_le (by omega)]
     have e2 : L = setLs p.lock d.locks := by rw [hL, List.take_of_length_le (by omega)]
     have e3 : I = setLs p.ice d.ices := by rw [hI, List.take_of_length_le (by omega)]
     refine ⟨_, _, _, _, .cons (.cellA (n := 7) rfl rfl rfl (by simp) rfl rfl rfl (Nat.le_of_ble_eq_true rfl)) .nil, (.aggc (by exact Exp.sloW rfl rfl rfl rfl rfl rfl (by (rw [em_len]; omega))) (.aggc (by exact Exp.sloW rfl rfl rfl rfl rfl rfl (by (rw [em_len]; omega))) (.aggc (by exact Exp.sloW rfl rfl rfl rfl rfl rfl (by (rw [em_len]; omega))) (.aggc (by exact Exp.sloW rfl rfl rfl rfl rfl rfl (by exact (em_len _ _).symm)) (.aggc (by exact Exp.sloW rfl rfl rfl rfl rfl rfl (by exact (em_len _ _).symm)) (.aggc (by exact Exp.sloW rfl rfl rfl rfl rfl rfl (by exact (em_len _ _).symm)) (.aggc (by exact Exp.frz (Frz.pure rfl)) .aggn))))))), (by decide), by simp, ?_⟩
     show LV.agg _ = _
     rw [e1, e2, e3]
     rfl

set_option maxRecDepth 100000 in
set_option maxHeartbeats 4000000 in
theorem once_ok (R : List (List Int)) (hR : R.length ≤ 1000000) (he : ∀ r ∈ R, r.length ≤ 1000000) : CallsV Try.prog 89 [.sl (em nr R)] (.bool (onceB R)) := by
  refine CallsR.intro (I0.sound _) mix Try.func89 rfl rfl (by simp [Try.f89]) (by kernel_rfl) (nb := 0) ?_
  unfold Try.f89
  refine Wp.seqI ?_
  refine Wp.regI I0.mono ?_
  refine GL.assign I0.mono (by conv => lhs; whnf) ?_
  refine GL.doneF ?_
  refine goOn ?_
  refine Wp.seqI ?_
  refine Wp.regI I0.mono ?_
  refine GL.makeMap I0.mono ?_
  intro g8
  refine GL.assign I0.mono (by conv => lhs; whnf) ?_
  refine GL.doneF ?_
  refine goOn ?_
  refine Wp.seqI ?_
  refine Wp.seqI ?_
  refine Wp.regI I0.mono ?_
  refine GL.move I0.mono (by conv => lhs; whnf) ?_
  refine GL.lenF I0.mono rfl rfl (em_len _ _) ?_
  refine GL.move I0.mono (by conv => lhs; whnf) ?_
  refine GL.doneF ?_
  refine goOn ?_
  refine Wp.blockI ?_
  refine Wp.loopI I0.mono (α := Nat × Nat × List Int) (fun ⟨i, g, hd⟩ st => (i ≤ R.length ∧ onceGo R.flatten [] = onceGo (R.drop i).flatten hd) ∧ ∃ m0, st = ⟨(updS (updS (updS (updS (fun _ => LV.undef) 3 (.mref 512 g)) 9 (.sl (em nr R))) 10 (.int .i64 (R.length : Int))) 11 (.int .i64 (i : Int))), effM m0 [(512, ⟨g, false, .mp, 2, em kb hd⟩)]⟩) (fun ⟨i, g, hd⟩ => R.length - i) ⟨0, _, []⟩ ⟨_, (LessS.weak (LessS.upd (LessS.upd (LessS.upd (LessS.upd (LessS.nil _) rfl) rfl) rfl) rfl) _), ⟨Nat.zero_le _, rfl⟩, _, (congrArg (St.mk _) (effM_eq (Has.cons rfl Has.nil)).symm)⟩ ?_
  rintro ⟨i, g, hd⟩ _ ⟨⟨hi, hA⟩, m0, rfl⟩
  refine Wp.seqI ?_
  refine Wp.regI I0.mono ?_
  refine GL.bin I0.mono rfl ?_
  refine GL.doneF ?_
  refine goOn ?_
  refine Wp.seqI ?_
  refine Wp.condI rfl (fun h12 => ?_) (fun h12 => ?_)
  ·replace h12 := of_decide_eq_true h12
   have hr := he _ (getD_mem (l := R) (j := i) (by omega))
   refine Wp.skipI ?_
   refine goOn ?_
   refine Wp.seqI ?_
   refine Wp.blockI ?_
   refine Wp.seqI ?_
   refine Wp.regI I0.mono ?_
   refine GL.indexAddrF I0.mono (sz := 1) rfl rfl rfl rfl (by omega) (by (rw [em_len]; omega)) (by intro e he; obtain ⟨a, -, rfl⟩ := List.mem_map.1 he; rfl) (by with_reducible exact Int.toNat_natCast _) ?_
   refine GL.loadF I0.mono rfl rfl (em_get (by omega)) rfl ?_
   refine GL.assign I0.mono (by conv => lhs; whnf) ?_
   refine GL.doneF ?_
   refine goOn ?_
   refine Wp.seqI ?_
   refine Wp.regI I0.mono ?_
   refine GL.move I0.mono (by conv => lhs; whnf) ?_
   refine GL.lenF I0.mono rfl rfl (em_len _ _) ?_
   refine GL.move I0.mono (by conv => lhs; whnf) ?_
   refine GL.doneF ?_
   refine goOn ?_
   refine Wp.blockI ?_
   refine Wp.loopI I0.mono (α := Nat × Nat × List Int) (fun ⟨j, g, hd'⟩ st => (j ≤ (R.getD i default).length ∧ onceGo (R.drop i).flatten hd = onceGo ((R.getD i default).drop j ++ (R.drop (i + 1)).flatten) hd') ∧ ∃ m0, st = ⟨(updS (updS (updS (updS (updS (updS (updS (fun _ => LV.undef) 3 (.mref 512 g)) 9 (.sl (em nr R))) 10 (.int .i64 (R.length : Int))) 11 (.int .i64 (i : Int))) 15 (.sl (em ni (R.getD i default)))) 16 (.int .i64 ((R.getD i default).length : Int))) 17 (.int .i64 (j : Int))), effM m0 [(512, ⟨g, false, .mp, 2, em kb hd'⟩)]⟩) (fun ⟨j, g, hd'⟩ => (R.getD i default).length - j) ⟨0, _, _⟩ ⟨_, (LessS.weak (LessS.upd (LessS.upd (LessS.upd (LessS.upd (LessS.upd (LessS.upd (LessS.upd (LessS.nil _) rfl) rfl) rfl) rfl) rfl) rfl) rfl) _), ⟨Nat.zero_le _, by rw [drop_getD (l := R) (by omega), List.flatten_cons]; rfl⟩, _, (congrArg (St.mk _) (effM_eq (Has.cons rfl Has.nil)).symm)⟩ ?_
   rintro ⟨j, g, hd'⟩ _ ⟨⟨hj, hB⟩, m0, rfl⟩
   refine Wp.seqI ?_
   refine Wp.regI I0.mono ?_
   refine GL.bin I0.mono rfl ?_
   refine GL.doneF ?_
   refine goOn ?_
   refine Wp.seqI ?_
   refine Wp.condI rfl (fun h18 => ?_) (fun h18 => ?_)
   ·replace h18 := of_decide_eq_true h18
    refine Wp.skipI ?_
    refine goOn ?_
    refine Wp.seqI ?_
    refine Wp.blockI ?_
    refine Wp.seqI ?_
    refine Wp.regI I0.mono ?_
    refine GL.indexAddrF I0.mono (sz := 1) rfl rfl rfl rfl (by omega) (by (rw [em_len]; omega)) (by intro e he; obtain ⟨a, -, rfl⟩ := List.mem_map.1 he; rfl) (by with_reducible exact Int.toNat_natCast _) ?_
    refine GL.loadF I0.mono rfl rfl (em_get (by omega)) rfl ?_
    refine GL.assign I0.mono (by conv => lhs; whnf) ?_
    refine GL.doneF ?_
    refine goOn ?_
    refine Wp.seqI ?_
    refine Wp.seqI ?_
    refine Wp.regI I0.mono ?_
    refine GL.move I0.mono (by conv => lhs; whnf) ?_
    refine GL.move I0.mono (by conv => lhs; whnf) ?_
    refine GL.setLook I0.mono rfl rfl rfl rfl rfl rfl rfl rfl rfl rfl ?_
    refine GL.doneF ?_
    refine goOn ?_
    refine Wp.condI rfl (fun h23 => ?_) (fun h23 => ?_)
    ·replace h23 := of_decide_eq_true h23
     refine Wp.seqI ?_
     refine Wp.regI I0.mono ?_
     refine GL.assign I0.mono (by conv => lhs; whnf) ?_
     refine GL.doneF ?_
     refine goOn ?_
     refine Wp.retI ?_
     refine thenX.ret ?_
     refine blockX.ret ?_
     refine thenX.ret ?_
     refine thenX.ret ?_
     refine blockX.ret ?_
     refine blockX.ret ?_
     refine thenX.ret ?_
     refine thenX.ret ?_
     refine blockX.ret ?_
     refine thenX.ret ?_
     refine RetX.ret ?_
     refine ⟨_, _, _, _, .cons (.tmp rfl) .nil, .frz (.pure rfl), List.nodup_nil, by simp, ?_⟩
     show LV.bool _ = LV.bool _
     congr 1
     unfold onceB
     rw [hA]
     (rw [hB, drop_getD (by omega), List.cons_append, once_no (by simpa using h23)])
    ·replace h23 := of_decide_eq_false h23
     refine Wp.skipI ?_
     refine goOn ?_
     refine Wp.regI I0.mono ?_
     refine GL.move I0.mono (by conv => lhs; whnf) ?_
     refine GL.move I0.mono (by conv => lhs; whnf) ?_
     refine GL.setPut I0.mono rfl rfl rfl rfl rfl rfl rfl rfl rfl rfl rfl ?_
     refine GL.doneF ?_
     refine blockX.normal ?_
     refine goOn ?_
     refine Wp.regI I0.mono ?_
     refine GL.addR I0.mono rfl rfl (by omega) ?_
     refine GL.move I0.mono (by conv => lhs; whnf) ?_
     refine GL.doneF ?_
     refine ⟨⟨j + 1, _, _⟩, (by dsimp only; omega), _, (LessS.weak (LessS.upd (LessS.upd (LessS.upd (LessS.upd (LessS.upd (LessS.upd (LessS.upd (LessS.nil _) rfl) rfl) rfl) rfl) rfl) rfl) rfl) _), ⟨by omega, by rw [hB, drop_getD (by omega), List.cons_append, once_step (by simpa using h23)]⟩, _, (congrArg (St.mk _) (effM_eq (Has.cons rfl Has.nil)).symm)⟩
   ·replace h18 := of_decide_eq_false h18
    refine Wp.exitI ?_
    refine thenX.exit ?_
    refine thenX.exit ?_
    refine blockX.out ?_
    refine blockX.normal ?_
    refine goOn ?_
    refine Wp.regI I0.mono ?_
    refine GL.addR I0.mono rfl rfl (by omega) ?_
    refine GL.move I0.mono (by conv => lhs; whnf) ?_
    refine GL.doneF ?_
    refine ⟨⟨i + 1, _, _⟩, (by dsimp only; omega), _, (LessS.weak (LessS.upd (LessS.upd (LessS.upd (LessS.upd (LessS.nil _) rfl) rfl) rfl) rfl) _), ⟨by omega, by rw [hA, hB, drop_all (by omega), List.nil_append]⟩, _, (congrArg (St.mk _) (effM_eq (Has.cons rfl Has.nil)).symm)⟩
  ·replace h12 := of_decide_eq_false h12
   refine Wp.exitI ?_
   refine thenX.exit ?_
   refine thenX.exit ?_
   refine blockX.out ?_
   refine goOn ?_
   refine Wp.seqI ?_
   refine Wp.regI I0.mono ?_
   refine GL.assign I0.mono (by conv => lhs; whnf) ?_
   refine GL.doneF ?_
   refine goOn ?_
   refine Wp.retI ?_
   refine RetX.ret ?_
   refine ⟨_, _, _, _, .cons (.tmp rfl) .nil, .frz (.pure rfl), List.nodup_nil, by simp, ?_⟩
   show LV.bool _ = LV.bool _
   congr 1
   unfold onceB
   rw [hA]
   (rw [drop_all (by omega)]; rfl)

set_option maxRecDepth 100000 in
set_option maxHeartbeats 4000000 in
theorem notIce_ok (p : Plan) (h : Hold) (hn : 0 ≤ h.n ∧ h.n < p.ice.length) : CallsV Try.prog 137 [.agg (kh h), .fad [kp p] 0 0] (.bool (p.ice.getD h.n.toNat default != h.before)) := by
  refine CallsR.intro (I0.sound _) mix Try.func137 rfl rfl (by simp [Try.f137]) (by kernel_rfl) (nb := 0) ?_
  unfold Try.f137
  refine Wp.seqI ?_
  refine Wp.regI I0.mono ?_
  refine GL.box I0.mono (by conv => lhs; whnf) rfl (n := 3) rfl rfl ?_
  intro g2
  refine GL.assign I0.mono (by conv => lhs; whnf) ?_
  refine GL.doneF ?_
  refine goOn ?_
  refine Wp.seqI ?_
  refine Wp.regD ?_
  refine GL.fieldAddrF I0.mono (o := 2) rfl rfl (by conv => lhs; whnf) ?_
  refine GL.loadF I0.mono rfl rfl rfl rfl ?_
  refine GL.fieldAddr I0.mono (o := 0) rfl rfl rfl rfl (by conv => lhs; whnf) ?_
  refine GL.load I0.mono rfl rfl rfl rfl (by simp) rfl rfl ?_
  refine GL.indexAddrF I0.mono (sz := 1) rfl rfl rfl rfl (by omega) (by rw [em_len]; omega) (by intro e he; obtain ⟨a, -, rfl⟩ := List.mem_map.1 he; rfl) rfl ?_
  refine GL.loadF I0.mono rfl rfl (em_get (by omega)) rfl ?_
  refine GL.fieldAddr I0.mono (o := 1) rfl rfl rfl rfl (by conv => lhs; whnf) ?_
  refine GL.load I0.mono rfl rfl rfl rfl (by simp) rfl rfl ?_
  refine GL.bin I0.mono rfl ?_
  refine GL.assign I0.mono (by conv => lhs; whnf) ?_
  refine GL.doneT (by kernel_rfl) ?_
  refine goOn ?_
  refine Wp.retI ?_
  refine RetX.ret ?_
  refine ⟨_, _, _, _, .cons (.tmp rfl) .nil, .frz (.pure rfl), List.nodup_nil, by simp, ?_⟩
  rfl

theorem any_bne (l : List Hold) (f : Hold → Int) : (!(l.any fun h => f h != h.before)) = l.all fun h => decide (f h = h.before) := by
  induction l with
  | nil => rfl
  | cons x r ih =>
    simp only [List.any_cons, List.all_cons, ← ih, Bool.not_or]
    congr 1
    show (!(!(f x == x.before))) = _
    rw [Bool.not_not]
    rfl

set_option maxRecDepth 100000 in
set_option maxHeartbeats 4000000 in
theorem as_ok (p : Plan) (hp : OkP p) (d : Delta) (hd : OkD d) (ht : thereB p d = true) (hw : p.routes.length ≤ p.ice.length) : CallsV Try.prog 90 [.agg (kp p), .agg (kd d)] (.bool (asB p d)) := by
  refine CallsR.intro (I0.sound _) mix Try.func90 rfl rfl (by simp [Try.f90]) (by kernel_rfl) (nb := 0) ?_
  unfold Try.f90
  refine Wp.seqI ?_
  obtain ⟨t1, t2, t3⟩ := there_at ht
  obtain ⟨p1, p2, p3, p4, p5, p6, p7⟩ := hp
  obtain ⟨d1, d2, d3, d4⟩ := hd
  refine Wp.regI I0.mono ?_
  refine GL.box I0.mono (by conv => lhs; whnf) rfl (n := 7) rfl rfl ?_
  intro g2
  refine GL.box I0.mono (by conv => lhs; whnf) rfl (n := 3) rfl rfl ?_
  intro g3
  refine GL.assign I0.mono (by conv => lhs; whnf) ?_
  refine GL.doneF ?_
  refine goOn ?_
  refine Wp.seqI ?_
  refine Wp.seqI ?_
  refine Wp.regI I0.mono ?_
  refine GL.fieldAddr I0.mono (o := 0) rfl rfl rfl rfl (by conv => lhs; whnf) ?_
  refine GL.load I0.mono rfl rfl rfl rfl (by simp) rfl rfl ?_
  refine GL.lenF I0.mono rfl rfl (em_len _ _) ?_
  refine GL.move I0.mono (by conv => lhs; whnf) ?_
  refine GL.doneF ?_
  refine goOn ?_
  refine Wp.blockI ?_
  refine Wp.loopI I0.mono (α := Nat) (fun i st => (i ≤ d.turns.length ∧ ∀ j, j < i → decide (p.routes.getD (d.turns.getD j default).car.toNat default = (d.turns.getD j default).before) = true) ∧ ∃ m0, st = ⟨(updS (updS (updS (updS (updS (fun _ => LV.undef) 2 (.ref 128 g2 0 0)) 3 (.ref 192 g3 0 0)) 10 (.sl (em kt d.turns))) 11 (.int .i64 (d.turns.length : Int))) 12 (.int .i64 (i : Int))), effM m0 [(128, ⟨g2, false, .var, 7, [kp p]⟩), (192, ⟨g3, false, .var, 3, [kd d]⟩)]⟩) (fun i => d.turns.length - i) 0 ⟨_, (LessS.weak (LessS.upd (LessS.upd (LessS.upd (LessS.upd (LessS.upd (LessS.nil _) rfl) rfl) rfl) rfl) rfl) _), ⟨Nat.zero_le _, fun j h => by omega⟩, _, (congrArg (St.mk _) (effM_eq (Has.cons rfl (Has.cons rfl Has.nil))).symm)⟩ ?_
  rintro i _ ⟨⟨hi, hA⟩, m0, rfl⟩
  refine Wp.seqI ?_
  refine Wp.regI I0.mono ?_
  refine GL.bin I0.mono rfl ?_
  refine GL.doneF ?_
  refine goOn ?_
  refine Wp.seqI ?_
  refine Wp.condI rfl (fun h13 => ?_) (fun h13 => ?_)
  ·replace h13 := of_decide_eq_true h13
   have hm := getD_mem (l := d.turns) (j := i) (by omega)
   have hc := t1 _ hm
   refine Wp.skipI ?_
   refine goOn ?_
   refine Wp.seqI ?_
   refine Wp.blockI ?_
   refine Wp.seqI ?_
   refine Wp.regI I0.mono ?_
   refine GL.indexAddrF I0.mono (sz := 3) rfl rfl rfl rfl (by omega) (by (rw [em_len]; omega)) (by intro e he; obtain ⟨a, -, rfl⟩ := List.mem_map.1 he; rfl) (by with_reducible exact Int.toNat_natCast _) ?_
   refine GL.loadFW I0.mono (n := 3) rfl rfl (em_get (by omega)) rfl rfl ?_
   refine GL.alloc I0.mono (cs := [LV.int .i64 0, LV.nils, LV.nils]) rfl rfl ?_
   intro g6
   refine GL.storeW I0.mono (n := 3) rfl rfl rfl rfl rfl rfl rfl (by conv => lhs; whnf) rfl rfl rfl ?_
   refine GL.doneF ?_
   refine goOn ?_
   refine Wp.seqI ?_
   refine Wp.regD ?_
   refine GL.fieldAddr I0.mono (o := 0) rfl rfl rfl rfl (by conv => lhs; whnf) ?_
   refine GL.load I0.mono rfl rfl rfl rfl (by simp) rfl rfl ?_
   refine GL.fieldAddr I0.mono (o := 0) rfl rfl rfl rfl (by conv => lhs; whnf) ?_
   refine GL.load I0.mono rfl rfl rfl rfl (by simp) rfl rfl ?_
   refine GL.indexAddrF I0.mono (sz := 1) rfl rfl rfl rfl (by omega) (by rw [em_len]; omega) (by intro e he; obtain ⟨a, -, rfl⟩ := List.mem_map.1 he; rfl) rfl ?_
   refine GL.loadF I0.mono rfl rfl (em_get (by omega)) rfl ?_
   refine GL.fieldAddr I0.mono (o := 1) rfl rfl rfl rfl (by conv => lhs; whnf) ?_
   refine GL.load I0.mono rfl rfl rfl rfl (by simp) rfl rfl ?_
   refine GL.call0 I0.mono rfl (Frz.aggc (by exact Frz.pure rfl) (Frz.aggc (by exact Frz.pure rfl) (Frz.aggn))) (equal_ok _ _ (by have := p2 _ (getD_mem (l := p.routes) (j := (d.turns.getD i default).car.toNat) (by omega)); unfold Short; omega) (by have := (d4 _ hm).1; omega)) rfl rfl (fun _ => rfl) ?_
   refine GL.un I0.mono rfl ?_
   refine GL.doneT (by kernel_rfl) ?_
   refine goOn ?_
   refine Wp.condI rfl (fun h25 => ?_) (fun h25 => ?_)
   ·skip
    refine Wp.seqI ?_
    refine Wp.regI I0.mono ?_
    refine GL.assign I0.mono (by conv => lhs; whnf) ?_
    refine GL.doneF ?_
    refine goOn ?_
    refine Wp.retI ?_
    refine blockX.ret ?_
    refine thenX.ret ?_
    refine thenX.ret ?_
    refine blockX.ret ?_
    refine thenX.ret ?_
    refine RetX.ret ?_
    refine ⟨_, _, _, _, .cons (.tmp rfl) .nil, .frz (.pure rfl), List.nodup_nil, by simp, ?_⟩
    show LV.bool _ = LV.bool _
    congr 1
    unfold asB
    first
    | (rw [all_no (l := d.turns) (k := i) (by omega) (by simpa using h25)]; rfl)
    | (rw [all_no (l := d.locks) (k := i) (by omega) (by simpa using h42)]; simp)
    | (rw [all_yes (l := d.turns) fun j hj => hA j (by omega), all_yes (l := d.locks) fun j hj => hB j (by omega)]; exact any_bne d.ices fun h => p.ice.getD h.n.toNat default)
   ·skip
    refine Wp.skipI ?_
    refine blockX.normal ?_
    refine goOn ?_
    refine Wp.regI I0.mono ?_
    refine GL.addR I0.mono rfl rfl (by omega) ?_
    refine GL.move I0.mono (by conv => lhs; whnf) ?_
    refine GL.doneF ?_
    refine ⟨i + 1, (by dsimp only; omega), _, (LessS.weak (LessS.upd (LessS.upd (LessS.upd (LessS.upd (LessS.upd (LessS.nil _) rfl) rfl) rfl) rfl) rfl) _), ⟨by omega, fun j h => by
          by_cases hj : j = i
          · subst hj; simpa using h25
          · exact hA j (by omega)⟩, _, (congrArg (St.mk _) (effM_eq (Has.cons rfl (Has.cons rfl Has.nil))).symm)⟩
  ·replace h13 := of_decide_eq_false h13
   refine Wp.exitI ?_
   refine thenX.exit ?_
   refine thenX.exit ?_
   refine blockX.out ?_
   refine goOn ?_
   refine Wp.seqI ?_
   refine Wp.seqI ?_
   refine Wp.regI I0.mono ?_
   refine GL.fieldAddr I0.mono (o := 1) rfl rfl rfl rfl (by conv => lhs; whnf) ?_
   refine GL.load I0.mono rfl rfl rfl rfl (by simp) rfl rfl ?_
   refine GL.lenF I0.mono rfl rfl (em_len _ _) ?_
   refine GL.move I0.mono (by conv => lhs; whnf) ?_
   refine GL.doneF ?_
   refine goOn ?_
   refine Wp.blockI ?_
   refine Wp.loopI I0.mono (α := Nat) (fun i st => (i ≤ d.locks.length ∧ ∀ j, j < i → decide (p.lock.getD (d.locks.getD j default).n.toNat default = (d.locks.getD j default).before) = true) ∧ ∃ m0, st = ⟨(updS (updS (updS (updS (updS (fun _ => LV.undef) 2 (.ref 128 g2 0 0)) 3 (.ref 192 g3 0 0)) 28 (.sl (em kh d.locks))) 29 (.int .i64 (d.locks.length : Int))) 30 (.int .i64 (i : Int))), effM m0 [(128, ⟨g2, false, .var, 7, [kp p]⟩), (192, ⟨g3, false, .var, 3, [kd d]⟩)]⟩) (fun i => d.locks.length - i) 0 ⟨_, (LessS.weak (LessS.upd (LessS.upd (LessS.upd (LessS.upd (LessS.upd (LessS.nil _) rfl) rfl) rfl) rfl) rfl) _), ⟨Nat.zero_le _, fun j h => by omega⟩, _, (congrArg (St.mk _) (effM_eq (Has.cons rfl (Has.cons rfl Has.nil))).symm)⟩ ?_
   rintro i _ ⟨⟨hi2, hB⟩, m0, rfl⟩
   refine Wp.seqI ?_
   refine Wp.regI I0.mono ?_
   refine GL.bin I0.mono rfl ?_
   refine GL.doneF ?_
   refine goOn ?_
   refine Wp.seqI ?_
   refine Wp.condI rfl (fun h31 => ?_) (fun h31 => ?_)
   ·replace h31 := of_decide_eq_true h31
    have hc := t2 _ (getD_mem (l := d.locks) (j := i) (by omega))
    refine Wp.skipI ?_
    refine goOn ?_
    refine Wp.seqI ?_
    refine Wp.blockI ?_
    refine Wp.seqI ?_
    refine Wp.regI I0.mono ?_
    refine GL.indexAddrF I0.mono (sz := 3) rfl rfl rfl rfl (by omega) (by (rw [em_len]; omega)) (by intro e he; obtain ⟨a, -, rfl⟩ := List.mem_map.1 he; rfl) (by with_reducible exact Int.toNat_natCast _) ?_
    refine GL.loadFW I0.mono (n := 3) rfl rfl (em_get (by omega)) rfl rfl ?_
    refine GL.alloc I0.mono (cs := [LV.int .i64 0, LV.int .i64 0, LV.int .i64 0]) rfl rfl ?_
    intro g8
    refine GL.storeW I0.mono (n := 3) rfl rfl rfl rfl rfl rfl rfl (by conv => lhs; whnf) rfl rfl rfl ?_
    refine GL.doneF ?_
    refine goOn ?_
    refine Wp.seqI ?_
    refine Wp.regD ?_
    refine GL.fieldAddr I0.mono (o := 1) rfl rfl rfl rfl (by conv => lhs; whnf) ?_
    refine GL.load I0.mono rfl rfl rfl rfl (by simp) rfl rfl ?_
    refine GL.fieldAddr I0.mono (o := 0) rfl rfl rfl rfl (by conv => lhs; whnf) ?_
    refine GL.load I0.mono rfl rfl rfl rfl (by simp) rfl rfl ?_
    refine GL.indexAddrF I0.mono (sz := 1) rfl rfl rfl rfl (by omega) (by rw [em_len]; omega) (by intro e he; obtain ⟨a, -, rfl⟩ := List.mem_map.1 he; rfl) rfl ?_
    refine GL.loadF I0.mono rfl rfl (em_get (by omega)) rfl ?_
    refine GL.fieldAddr I0.mono (o := 1) rfl rfl rfl rfl (by conv => lhs; whnf) ?_
    refine GL.load I0.mono rfl rfl rfl rfl (by simp) rfl rfl ?_
    refine GL.bin I0.mono rfl ?_
    refine GL.doneT (by kernel_rfl) ?_
    refine goOn ?_
    refine Wp.condI rfl (fun h42 => ?_) (fun h42 => ?_)
    ·replace h42 := bne_true h42
     refine Wp.seqI ?_
     refine Wp.regI I0.mono ?_
     refine GL.assign I0.mono (by conv => lhs; whnf) ?_
     refine GL.doneF ?_
     refine goOn ?_
     refine Wp.retI ?_
     refine blockX.ret ?_
     refine thenX.ret ?_
     refine thenX.ret ?_
     refine blockX.ret ?_
     refine thenX.ret ?_
     refine RetX.ret ?_
     refine ⟨_, _, _, _, .cons (.tmp rfl) .nil, .frz (.pure rfl), List.nodup_nil, by simp, ?_⟩
     show LV.bool _ = LV.bool _
     congr 1
     unfold asB
     first
     | (rw [all_no (l := d.turns) (k := i) (by omega) (by simpa using h25)]; rfl)
     | (rw [all_no (l := d.locks) (k := i) (by omega) (by simpa using h42)]; simp)
     | (rw [all_yes (l := d.turns) fun j hj => hA j (by omega), all_yes (l := d.locks) fun j hj => hB j (by omega)]; exact any_bne d.ices fun h => p.ice.getD h.n.toNat default)
    ·replace h42 := bne_false h42
     refine Wp.skipI ?_
     refine blockX.normal ?_
     refine goOn ?_
     refine Wp.regI I0.mono ?_
     refine GL.addR I0.mono rfl rfl (by omega) ?_
     refine GL.move I0.mono (by conv => lhs; whnf) ?_
     refine GL.doneF ?_
     refine ⟨i + 1, (by dsimp only; omega), _, (LessS.weak (LessS.upd (LessS.upd (LessS.upd (LessS.upd (LessS.upd (LessS.nil _) rfl) rfl) rfl) rfl) rfl) _), ⟨by omega, fun j h => by
           by_cases hj : j = i
           · subst hj; simpa using h42
           · exact hB j (by omega)⟩, _, (congrArg (St.mk _) (effM_eq (Has.cons rfl (Has.cons rfl Has.nil))).symm)⟩
   ·replace h31 := of_decide_eq_false h31
    refine Wp.exitI ?_
    refine thenX.exit ?_
    refine thenX.exit ?_
    refine blockX.out ?_
    refine goOn ?_
    refine Wp.seqI ?_
    refine Wp.regI I0.mono ?_
    refine GL.fieldAddr I0.mono (o := 2) rfl rfl rfl rfl (by conv => lhs; whnf) ?_
    refine GL.load I0.mono rfl rfl rfl rfl (by simp) rfl rfl ?_
    refine GL.makeFunc I0.mono rfl ?_
    refine GL.callFl I0.mono rfl (Frz.aggc (Frz.pure rfl) (Frz.aggc (Frz.fn (Frz.aggc (Frz.ref rfl rfl rfl rfl (Frz.pures rfl)) Frz.aggn)) Frz.aggn)) (contH_ok d.ices (by omega) 137 [.fad [kp p] 0 0] rfl (fun h => p.ice.getD h.n.toNat default != h.before) fun h hm => notIce_ok p h (by have := t3 h hm; omega)) (.sca rfl) rfl rfl ?_
    refine GL.un I0.mono rfl ?_
    refine GL.assign I0.mono (by conv => lhs; whnf) ?_
    refine GL.doneF ?_
    refine goOn ?_
    refine Wp.retI ?_
    refine RetX.ret ?_
    refine ⟨_, _, _, _, .cons (.tmp rfl) .nil, .frz (.pure rfl), List.nodup_nil, by simp, ?_⟩
    show LV.bool _ = LV.bool _
    congr 1
    unfold asB
    first
    | (rw [all_no (l := d.turns) (k := i) (by omega) (by simpa using h25)]; rfl)
    | (rw [all_no (l := d.locks) (k := i) (by omega) (by simpa using h42)]; simp)
    | (rw [all_yes (l := d.turns) fun j hj => hA j (by omega), all_yes (l := d.locks) fun j hj => hB j (by omega)]; exact any_bne d.ices fun h => p.ice.getD h.n.toNat default)

end Go.Proofs.Ytffnlhjdlhpmjaa
