/- The law of the parts of a route, walked. -/
import Derived.Test.YtpepcfombibpeaaFg
import Derived.Test.YtpepcfombibpeaaFk
import Derived.Test.YtpepcfombibpeaaFp
import Derived.Test.YtpepcfombibpeaaFw
import Derived.Test.YtpepcfombibpeaaMvC
import Derived.KernelRfl
set_option linter.unusedVariables false
set_option linter.unusedSimpArgs false
namespace Go.Proofs.Ytpepcfombibpeaa
open Go.Proofs Mv


theorem drv_prev {I : Inst} {N : Nat} {c : Car} {r : List Int} {T : Trip} (h : Drv I N c r T) {k : Nat} (hk : k ≤ r.length) (h0 : 0 < k) : 1 ≤ r.getD ((k : Int) - 1).toNat default ∧ r.getD ((k : Int) - 1).toNat default ≤ N ∧ 0 ≤ T.t0.getD ((k : Int) - 1).toNat default ∧ T.t0.getD ((k : Int) - 1).toNat default ≤ 1000 ∧ StopIn (I.stops.getD (r.getD ((k : Int) - 1).toNat default - 1).toNat default) := by
  obtain ⟨k, rfl⟩ : ∃ q, k = q + 1 := ⟨k - 1, by omega⟩
  rw [show (((k + 1 : Nat) : Int) - 1).toNat = k by omega]
  obtain ⟨d1, d2, d3, d4, d5, d6, d7, d8, d9, d10, d11, d12, d13, d14, d15, d16, d17, d18, d19, d20, d21, d22, d23, d24, d25⟩ := h.at' k (by omega)
  have := d25
  obtain ⟨s1, s2, s3, s4, s5, s6, s7⟩ := this
  exact ⟨d1, d2, by omega, by omega, d25⟩

set_option maxRecDepth 100000 in
set_option maxHeartbeats 4000000 in
theorem tq_walk (z0 z1 : List Int) (n : Int) (I : Inst) (N : Nat) (hb : Sb I N) (hI : CallsV Try.prog 29 [.sl (em ni z0)] (ei I)) (r : List Int) (hr : CallsV Try.prog 30 [ei I, .sl (em ni z1)] (.sl (em ni r))) (hrl : r.length ≤ 14) (c : Int) (hc : within n I.cars.length = c) (HL : List Head) (TL : List Tail) (hH : CallsV Try.prog 38 [ei I, .int .i64 c, .sl (em ni r)] (.sl (em nh HL))) (hT : CallsV Try.prog 35 [ei I, .int .i64 c, .sl (em ni r)] (.sl (em nl TL))) (hHl : HL.length = r.length + 1) (hTl : TL.length = r.length + 1) (T : Trip) (b : Bool) (he : CallsV Try.prog 32 [ei I, .int .i64 c, .sl (em ni r)] (.tup [.agg (nt T), .bool b])) (hm : ∀ k : Nat, k ≤ r.length → ∃ cc : Int, CallsV Try.prog 39 [ei I, .int .i64 c, .agg (nh (HL.getD k default)), .agg (nl (TL.getD k default))] (.tup [.int .i64 cc, .bool b]) ∧ (b = true → cc = T.t2)) (hD : b = true → Drv I N (I.cars.getD c.toNat default) r T) (hP : b = true → Parts I r T HL TL) (hq1 : ∀ k : Nat, k ≤ r.length → 0 < k → (HL.getD k default).ok = true → (HL.getD ((k : Int) - 1).toNat default).ok = true) (hq2 : ∀ k : Nat, k ≤ r.length → 0 < k → (TL.getD ((k : Int) - 1).toNat default).ok = true → (TL.getD k default).ok = true) : CallsV Try.prog 11 [.sl (em ni z0), .sl (em ni z1), .int .i64 n] (.bool true) := by
  refine CallsR.intro (I0.sound _) mix Try.func11 rfl rfl (by simp [Try.f11]) (by kernel_rfl) (nb := 0) ?_
  unfold Try.f11
  refine Wp.seqI ?_
  refine Wp.regI I0.mono ?_
  refine GL.assign I0.mono (by conv => lhs; whnf) ?_
  refine GL.doneF ?_
  refine goOn ?_
  refine Wp.seqI ?_
  refine Wp.regI I0.mono ?_
  refine GL.move I0.mono (by conv => lhs; whnf) ?_
  refine GL.call0 I0.mono rfl (Frz.aggc (by exact Frz.pure rfl) (Frz.aggn)) (hI) rfl rfl (fun _ => rfl) ?_
  refine GL.alloc I0.mono (cs := [LV.nils, LV.nils, LV.nils, LV.nils]) rfl rfl ?_
  intro g7
  refine GL.storeW I0.mono (n := 4) rfl rfl rfl rfl rfl rfl rfl (by conv => lhs; whnf) rfl rfl rfl ?_
  refine GL.doneF ?_
  refine goOn ?_
  refine Wp.seqI ?_
  refine Wp.regI I0.mono ?_
  refine GL.move I0.mono (by conv => lhs; whnf) ?_
  refine GL.fieldAddr I0.mono (o := 0) rfl rfl rfl rfl (by conv => lhs; whnf) ?_
  refine GL.load I0.mono rfl rfl rfl rfl (by simp) rfl rfl ?_
  refine GL.lenF I0.mono rfl rfl (em_len _ _) ?_
  refine GL.call0 I0.mono rfl (Frz.aggc (by exact Frz.pure rfl) (Frz.aggc (by exact Frz.pure rfl) (Frz.aggn))) ((hc ▸ within_ok _ _ (by have := hb.sq.cars1; omega))) rfl rfl (fun _ => rfl) ?_
  refine GL.assign I0.mono (by conv => lhs; whnf) ?_
  refine GL.doneF ?_
  refine goOn ?_
  refine Wp.seqI ?_
  refine Wp.regI I0.mono ?_
  refine GL.loadW I0.mono (n := 4) rfl rfl rfl rfl (by simp) rfl rfl rfl ?_
  refine GL.move I0.mono (by conv => lhs; whnf) ?_
  refine GL.call0 I0.mono rfl (Frz.aggc (by exact Frz.pures rfl) (Frz.aggc (by exact Frz.pure rfl) (Frz.aggn))) (hr) rfl rfl (fun _ => rfl) ?_
  refine GL.assign I0.mono (by conv => lhs; whnf) ?_
  refine GL.doneF ?_
  refine goOn ?_
  refine Wp.seqI ?_
  refine Wp.regI I0.mono ?_
  refine GL.loadW I0.mono (n := 4) rfl rfl rfl rfl (by simp) rfl rfl rfl ?_
  refine GL.move I0.mono (by conv => lhs; whnf) ?_
  refine GL.move I0.mono (by conv => lhs; whnf) ?_
  refine GL.call0 I0.mono rfl (Frz.aggc (by exact Frz.pures rfl) (Frz.aggc (by exact Frz.pure rfl) (Frz.aggc (by exact Frz.pure rfl) (Frz.aggn)))) (he) rfl rfl (fun _ => rfl) ?_
  refine GL.move I0.mono (by conv => lhs; whnf) ?_
  refine GL.extract I0.mono rfl rfl ?_
  refine GL.extract I0.mono rfl rfl ?_
  refine GL.alloc I0.mono (cs := [LV.nils, LV.nils, LV.int .i64 0, LV.int .i64 0]) rfl rfl ?_
  intro g9
  refine GL.storeW I0.mono (n := 4) rfl rfl rfl rfl rfl rfl rfl (by conv => lhs; whnf) rfl rfl rfl ?_
  refine GL.assign I0.mono (by conv => lhs; whnf) ?_
  refine GL.doneF ?_
  refine goOn ?_
  refine Wp.seqI ?_
  refine Wp.regD ?_
  refine GL.loadW I0.mono (n := 4) rfl rfl rfl rfl (by simp) rfl rfl rfl ?_
  refine GL.move I0.mono (by conv => lhs; whnf) ?_
  refine GL.move I0.mono (by conv => lhs; whnf) ?_
  refine GL.call0 I0.mono rfl (Frz.aggc (by exact Frz.pures rfl) (Frz.aggc (by exact Frz.pure rfl) (Frz.aggc (by exact Frz.pure rfl) (Frz.aggn)))) (hH) rfl rfl (fun _ => rfl) ?_
  refine GL.loadW I0.mono (n := 4) rfl rfl rfl rfl (by simp) rfl rfl rfl ?_
  refine GL.move I0.mono (by conv => lhs; whnf) ?_
  refine GL.move I0.mono (by conv => lhs; whnf) ?_
  refine GL.call0 I0.mono rfl (Frz.aggc (by exact Frz.pures rfl) (Frz.aggc (by exact Frz.pure rfl) (Frz.aggc (by exact Frz.pure rfl) (Frz.aggn)))) (hT) rfl rfl (fun _ => rfl) ?_
  refine GL.assign I0.mono (by conv => lhs; whnf) ?_
  refine GL.assign I0.mono (by conv => lhs; whnf) ?_
  refine GL.doneT (by kernel_rfl) ?_
  refine goOn ?_
  refine Wp.seqI ?_
  refine Wp.seqI ?_
  refine Wp.regI I0.mono ?_
  refine GL.move I0.mono (by conv => lhs; whnf) ?_
  refine GL.lenF I0.mono rfl rfl (em_len _ _) ?_
  refine GL.move I0.mono (by conv => lhs; whnf) ?_
  refine GL.lenF I0.mono rfl rfl (em_len _ _) ?_
  refine GL.addR I0.mono rfl rfl (by omega) ?_
  refine GL.bin I0.mono rfl ?_
  refine GL.move I0.mono (by conv => lhs; whnf) ?_
  refine GL.splitAt 47 rfl (fun h47 => ?_) (fun h47 => ?_)
  ·rw [h47]
   replace h47 := bne_true h47
   exact absurd h47 (by omega)
  ·rw [h47]
   replace h47 := bne_false h47
   refine GL.guardT rfl ?_
   refine GL.move I0.mono (by conv => lhs; whnf) ?_
   refine GL.guardT rfl ?_
   refine GL.lenF I0.mono rfl rfl (em_len _ _) ?_
   refine GL.guardT rfl ?_
   refine GL.move I0.mono (by conv => lhs; whnf) ?_
   refine GL.guardT rfl ?_
   refine GL.lenF I0.mono rfl rfl (em_len _ _) ?_
   refine GL.guardT rfl ?_
   refine GL.addR I0.mono rfl rfl (by omega) ?_
   refine GL.guardT rfl ?_
   refine GL.bin I0.mono rfl ?_
   refine GL.pick I0.mono rfl (by conv => lhs; whnf) ?_
   refine GL.doneF ?_
   refine goOn ?_
   refine Wp.condI rfl (fun h54 => ?_) (fun h54 => ?_)
   ·replace h54 := bne_true h54
    exact absurd h54 (by omega)
   ·replace h54 := bne_false h54
    refine Wp.skipI ?_
    refine goOn ?_
    refine Wp.seqI ?_
    refine Wp.seqI ?_
    refine Wp.regI I0.mono ?_
    refine GL.move I0.mono (by conv => lhs; whnf) ?_
    refine GL.lenF I0.mono rfl rfl (em_len _ _) ?_
    refine GL.move I0.mono (by conv => lhs; whnf) ?_
    refine GL.doneF ?_
    refine goOn ?_
    refine Wp.blockI ?_
    refine Wp.loopI I0.mono (α := Nat) (fun k st => (k ≤ HL.length) ∧ ∃ m0, st = ⟨(updS (updS (updS (updS (updS (updS (updS (updS (updS (updS (fun _ => LV.undef) 2 (.int .i64 c)) 7 (.ref 448 g7 0 0)) 8 (.sl (em ni r))) 9 (.ref 576 g9 0 0)) 10 (.bool b)) 11 (.sl (em nh HL))) 12 (.sl (em nl TL))) 55 (.sl (em nh HL))) 56 (.int .i64 (HL.length : Int))) 57 (.int .i64 (k : Int))), effM m0 [(448, ⟨g7, false, .var, 4, [ic I]⟩), (576, ⟨g9, false, .var, 4, [nt T]⟩)]⟩) (fun k => HL.length - k) 0 ⟨_, (LessS.weak (LessS.upd (LessS.upd (LessS.upd (LessS.upd (LessS.upd (LessS.upd (LessS.upd (LessS.upd (LessS.upd (LessS.upd (LessS.nil _) rfl) rfl) rfl) rfl) rfl) rfl) rfl) rfl) rfl) rfl) _), (Nat.zero_le _), _, (congrArg (St.mk _) (effM_eq (Has.cons rfl (Has.cons rfl Has.nil))).symm)⟩ ?_
    rintro k _ ⟨hi, m0, rfl⟩
    refine Wp.seqI ?_
    refine Wp.regI I0.mono ?_
    refine GL.bin I0.mono rfl ?_
    refine GL.doneF ?_
    refine goOn ?_
    refine Wp.seqI ?_
    refine Wp.condI rfl (fun h58 => ?_) (fun h58 => ?_)
    ·replace h58 := of_decide_eq_true h58
     obtain ⟨cc, hm, q1⟩ := hm k (by omega)
     refine Wp.skipI ?_
     refine goOn ?_
     refine Wp.seqI ?_
     refine Wp.blockI ?_
     refine Wp.seqI ?_
     refine Wp.regI I0.mono ?_
     refine GL.move I0.mono (by conv => lhs; whnf) ?_
     refine GL.assign I0.mono (by conv => lhs; whnf) ?_
     refine GL.doneF ?_
     refine goOn ?_
     refine Wp.seqI ?_
     refine Wp.regD ?_
     refine GL.loadW I0.mono (n := 4) rfl rfl rfl rfl (by simp) rfl rfl rfl ?_
     refine GL.move I0.mono (by conv => lhs; whnf) ?_
     refine GL.move I0.mono (by conv => lhs; whnf) ?_
     refine GL.move I0.mono (by conv => lhs; whnf) ?_
     refine GL.indexAddrF I0.mono (sz := 7) rfl rfl rfl rfl (by omega) (by (rw [em_len]; omega)) (by intro e he; obtain ⟨a, -, rfl⟩ := List.mem_map.1 he; rfl) (by with_reducible exact Int.toNat_natCast _) ?_
     refine GL.loadFW I0.mono (n := 7) rfl rfl (em_get (by omega)) rfl rfl ?_
     refine GL.move I0.mono (by conv => lhs; whnf) ?_
     refine GL.move I0.mono (by conv => lhs; whnf) ?_
     refine GL.indexAddrF I0.mono (sz := 8) rfl rfl rfl rfl (by omega) (by (rw [em_len]; omega)) (by intro e he; obtain ⟨a, -, rfl⟩ := List.mem_map.1 he; rfl) (by with_reducible exact Int.toNat_natCast _) ?_
     refine GL.loadFW I0.mono (n := 8) rfl rfl (em_get (by omega)) rfl rfl ?_
     refine GL.call0 I0.mono rfl (Frz.aggc (by exact Frz.pures rfl) (Frz.aggc (by exact Frz.pure rfl) (Frz.aggc (by exact Frz.pures rfl) (Frz.aggc (by exact Frz.pures rfl) (Frz.aggn))))) (hm) rfl rfl (fun _ => rfl) ?_
     refine GL.move I0.mono (by conv => lhs; whnf) ?_
     refine GL.extract I0.mono rfl rfl ?_
     refine GL.extract I0.mono rfl rfl ?_
     refine GL.assign I0.mono (by conv => lhs; whnf) ?_
     refine GL.assign I0.mono (by conv => lhs; whnf) ?_
     refine GL.doneT (by kernel_rfl) ?_
     refine goOn ?_
     refine Wp.seqI ?_
     refine Wp.merge I0.mono (fun st => (True) ∧ ∃ m0, st = ⟨(updS (updS (updS (updS (updS (updS (updS (updS (updS (updS (updS (updS (fun _ => LV.undef) 2 (.int .i64 c)) 7 (.ref 448 g7 0 0)) 8 (.sl (em ni r))) 9 (.ref 576 g9 0 0)) 10 (.bool b)) 11 (.sl (em nh HL))) 12 (.sl (em nl TL))) 55 (.sl (em nh HL))) 56 (.int .i64 (HL.length : Int))) 57 (.int .i64 (k : Int))) 13 (.int .i64 (k : Int))) 85 (.bool false)), effM m0 [(448, ⟨g7, false, .var, 4, [ic I]⟩), (576, ⟨g9, false, .var, 4, [nt T]⟩)]⟩) ?_ ?_
     ·skip
      refine Wp.regI I0.mono ?_
      refine GL.move I0.mono (by conv => lhs; whnf) ?_
      refine GL.move I0.mono (by conv => lhs; whnf) ?_
      refine GL.bin I0.mono rfl ?_
      refine GL.move I0.mono (by conv => lhs; whnf) ?_
      refine GL.splitAt 77 rfl (fun h77 => ?_) (fun h77 => ?_)
      ·rw [h77]
       skip
       (simp at h77)
      ·rw [h77]
       skip
       refine GL.guardT rfl ?_
       refine GL.move I0.mono (by conv => lhs; whnf) ?_
       refine GL.guardT rfl ?_
       refine GL.move I0.mono (by conv => lhs; whnf) ?_
       refine GL.splitAt 79 rfl (fun h79 => ?_) (fun h79 => ?_)
       ·rw [h79]
        skip
        refine GL.guardT rfl ?_
        refine GL.move I0.mono (by conv => lhs; whnf) ?_
        refine GL.guardT rfl ?_
        refine GL.fieldAddr I0.mono (o := 2) rfl rfl rfl rfl (by conv => lhs; whnf) ?_
        refine GL.guardT rfl ?_
        refine GL.load I0.mono rfl rfl rfl rfl (by simp) rfl rfl ?_
        refine GL.guardT rfl ?_
        refine GL.bin I0.mono rfl ?_
        refine GL.guardT rfl ?_
        refine GL.pick I0.mono rfl (by conv => lhs; whnf) ?_
        refine GL.pick I0.mono rfl (by conv => lhs; whnf) ?_
        refine GL.doneF ?_
        refine ⟨_, (LessS.weak (LessS.upd (LessS.upd (LessS.upd (LessS.upd (LessS.upd (LessS.upd (LessS.upd (LessS.upd (LessS.upd (LessS.upd (LessS.upd (LessS.upd (LessS.nil _) rfl) rfl) rfl) rfl) (by rfl)) rfl) rfl) rfl) rfl) rfl) rfl) (by exact congrArg LV.bool (bne_self (q1 h79)))) _), trivial, _, (congrArg (St.mk _) (effM_eq (Has.cons rfl (Has.cons rfl Has.nil))).symm)⟩
       ·rw [h79]
        skip
        refine GL.guardF rfl ?_
        refine GL.guardF rfl ?_
        refine GL.guardF rfl ?_
        refine GL.guardF rfl ?_
        refine GL.guardT rfl ?_
        refine GL.pick I0.mono rfl (by conv => lhs; whnf) ?_
        refine GL.pick I0.mono rfl (by conv => lhs; whnf) ?_
        refine GL.doneF ?_
        refine ⟨_, (LessS.weak (LessS.upd (LessS.upd (LessS.upd (LessS.upd (LessS.upd (LessS.upd (LessS.upd (LessS.upd (LessS.upd (LessS.upd (LessS.upd (LessS.upd (LessS.nil _) rfl) rfl) rfl) rfl) (by rfl)) rfl) rfl) rfl) rfl) rfl) rfl) (by rfl)) _), trivial, _, (congrArg (St.mk _) (effM_eq (Has.cons rfl (Has.cons rfl Has.nil))).symm)⟩
     ·rintro _ ⟨-, m0, rfl⟩
      refine Wp.condF rfl ?_
      refine Wp.skipI ?_
      refine goOn ?_
      refine Wp.seqI ?_
      refine Wp.merge I0.mono (fun st => (True) ∧ ∃ m0, st = ⟨(updS (updS (updS (updS (updS (updS (updS (updS (updS (updS (updS (updS (fun _ => LV.undef) 2 (.int .i64 c)) 7 (.ref 448 g7 0 0)) 8 (.sl (em ni r))) 9 (.ref 576 g9 0 0)) 10 (.bool b)) 11 (.sl (em nh HL))) 12 (.sl (em nl TL))) 55 (.sl (em nh HL))) 56 (.int .i64 (HL.length : Int))) 57 (.int .i64 (k : Int))) 13 (.int .i64 (k : Int))) 190 (.bool false)), effM m0 [(448, ⟨g7, false, .var, 4, [ic I]⟩), (576, ⟨g9, false, .var, 4, [nt T]⟩)]⟩) ?_ ?_
      ·skip
       refine Wp.regD ?_
       refine GL.move I0.mono (by conv => lhs; whnf) ?_
       refine GL.move I0.mono (by conv => lhs; whnf) ?_
       refine GL.splitAt 87 rfl (fun h87 => ?_) (fun h87 => ?_)
       ·rw [h87]
        have hl0 := (hD h87).len0
        have hl1 := (hD h87).len1
        have hok := (hP h87).ok k (by omega)
        have hN := hb.sq.high
        have hS := hb.sq.stops
        refine GL.guardT rfl ?_
        refine GL.move I0.mono (by conv => lhs; whnf) ?_
        refine GL.guardT rfl ?_
        refine GL.move I0.mono (by conv => lhs; whnf) ?_
        refine GL.guardT rfl ?_
        refine GL.indexAddrF I0.mono (sz := 7) rfl rfl rfl rfl (by omega) (by (rw [em_len]; omega)) (by intro e he; obtain ⟨a, -, rfl⟩ := List.mem_map.1 he; rfl) (by with_reducible exact Int.toNat_natCast _) ?_
        refine GL.guardT rfl ?_
        refine GL.fieldAddrF I0.mono (o := 0) rfl rfl (by conv => lhs; whnf) ?_
        refine GL.guardT rfl ?_
        refine GL.loadF I0.mono rfl rfl (em_get (by omega)) rfl ?_
        refine GL.guardT rfl ?_
        refine GL.un I0.mono rfl ?_
        refine GL.guardT rfl ?_
        refine GL.move I0.mono (by conv => lhs; whnf) ?_
        refine GL.splitAt 94 rfl (fun h94 => ?_) (fun h94 => ?_)
        ·rw [h94]
         skip
         (rw [hok.1] at h94; cases h94)
        ·rw [h94]
         skip
         refine GL.guardT rfl ?_
         refine GL.move I0.mono (by conv => lhs; whnf) ?_
         refine GL.guardT rfl ?_
         refine GL.move I0.mono (by conv => lhs; whnf) ?_
         refine GL.guardT rfl ?_
         refine GL.indexAddrF I0.mono (sz := 8) rfl rfl rfl rfl (by omega) (by (rw [em_len]; omega)) (by intro e he; obtain ⟨a, -, rfl⟩ := List.mem_map.1 he; rfl) (by with_reducible exact Int.toNat_natCast _) ?_
         refine GL.guardT rfl ?_
         refine GL.fieldAddrF I0.mono (o := 0) rfl rfl (by conv => lhs; whnf) ?_
         refine GL.guardT rfl ?_
         refine GL.loadF I0.mono rfl rfl (em_get (by omega)) rfl ?_
         refine GL.guardT rfl ?_
         refine GL.un I0.mono rfl ?_
         refine GL.guardT rfl ?_
         refine GL.pick I0.mono rfl (by conv => lhs; whnf) ?_
         refine GL.guardT rfl ?_
         refine GL.move I0.mono (by conv => lhs; whnf) ?_
         refine GL.splitAt 102 rfl (fun h102 => ?_) (fun h102 => ?_)
         ·rw [h102]
          skip
          (rw [hok.2] at h102; cases h102)
         ·rw [h102]
          skip
          refine GL.guardT rfl ?_
          refine GL.move I0.mono (by conv => lhs; whnf) ?_
          refine GL.guardT rfl ?_
          refine GL.bin I0.mono rfl ?_
          refine GL.guardT rfl ?_
          refine GL.move I0.mono (by conv => lhs; whnf) ?_
          refine GL.splitAt 105 rfl (fun h105 => ?_) (fun h105 => ?_)
          ·rw [h105]
           replace h105 := of_decide_eq_true h105
           obtain ⟨p1, p2, p3⟩ := (hP h87).head k (by omega) (by omega)
           have hDD : 1 ≤ r.getD ((k : Int) - 1).toNat default ∧ r.getD ((k : Int) - 1).toNat default ≤ N ∧ 0 ≤ T.t0.getD ((k : Int) - 1).toNat default ∧ T.t0.getD ((k : Int) - 1).toNat default ≤ 1000 ∧ StopIn (I.stops.getD (r.getD ((k : Int) - 1).toNat default - 1).toNat default) := drv_prev (hD h87) (by omega) (by omega)
           unfold StopIn at hDD
           refine GL.guardT rfl ?_
           refine GL.move I0.mono (by conv => lhs; whnf) ?_
           refine GL.guardT rfl ?_
           refine GL.move I0.mono (by conv => lhs; whnf) ?_
           refine GL.guardT rfl ?_
           refine GL.indexAddrF I0.mono (sz := 7) rfl rfl rfl rfl (by omega) (by (rw [em_len]; omega)) (by intro e he; obtain ⟨a, -, rfl⟩ := List.mem_map.1 he; rfl) (by with_reducible exact Int.toNat_natCast _) ?_
           refine GL.guardT rfl ?_
           refine GL.fieldAddrF I0.mono (o := 1) rfl rfl (by conv => lhs; whnf) ?_
           refine GL.guardT rfl ?_
           refine GL.loadF I0.mono rfl rfl (em_get (by omega)) rfl ?_
           refine GL.guardT rfl ?_
           refine GL.move I0.mono (by conv => lhs; whnf) ?_
           refine GL.guardT rfl ?_
           refine GL.move I0.mono (by conv => lhs; whnf) ?_
           refine GL.guardT rfl ?_
           refine GL.subR I0.mono rfl rfl (by omega) ?_
           refine GL.guardT rfl ?_
           refine GL.indexAddrF I0.mono (sz := 1) rfl rfl rfl rfl (by omega) (by (rw [em_len]; omega)) (by intro e he; obtain ⟨a, -, rfl⟩ := List.mem_map.1 he; rfl) (by rfl) ?_
           refine GL.guardT rfl ?_
           refine GL.loadF I0.mono rfl rfl (em_get (by omega)) rfl ?_
           refine GL.guardT rfl ?_
           refine GL.bin I0.mono rfl ?_
           refine GL.guardT rfl ?_
           refine GL.move I0.mono (by conv => lhs; whnf) ?_
           refine GL.splitAt 117 rfl (fun h117 => ?_) (fun h117 => ?_)
           ·rw [h117]
            replace h117 := bne_true h117
            exact absurd h117 (by omega)
           ·rw [h117]
            replace h117 := bne_false h117
            refine GL.guardT rfl ?_
            refine GL.move I0.mono (by conv => lhs; whnf) ?_
            refine GL.guardT rfl ?_
            refine GL.move I0.mono (by conv => lhs; whnf) ?_
            refine GL.guardT rfl ?_
            refine GL.indexAddrF I0.mono (sz := 7) rfl rfl rfl rfl (by omega) (by (rw [em_len]; omega)) (by intro e he; obtain ⟨a, -, rfl⟩ := List.mem_map.1 he; rfl) (by with_reducible exact Int.toNat_natCast _) ?_
            refine GL.guardT rfl ?_
            refine GL.fieldAddrF I0.mono (o := 3) rfl rfl (by conv => lhs; whnf) ?_
            refine GL.guardT rfl ?_
            refine GL.loadF I0.mono rfl rfl (em_get (by omega)) rfl ?_
            refine GL.guardT rfl ?_
            refine GL.fieldAddr I0.mono (o := 1) rfl rfl rfl rfl (by conv => lhs; whnf) ?_
            refine GL.guardT rfl ?_
            refine GL.load I0.mono rfl rfl rfl rfl (by simp) rfl rfl ?_
            refine GL.guardT rfl ?_
            refine GL.move I0.mono (by conv => lhs; whnf) ?_
            refine GL.guardT rfl ?_
            refine GL.subR I0.mono rfl rfl (by omega) ?_
            refine GL.guardT rfl ?_
            refine GL.indexAddrF I0.mono (sz := 1) rfl rfl rfl rfl (by omega) (by (rw [em_len]; omega)) (by intro e he; obtain ⟨a, -, rfl⟩ := List.mem_map.1 he; rfl) (by rfl) ?_
            refine GL.guardT rfl ?_
            refine GL.loadF I0.mono rfl rfl (em_get (by omega)) rfl ?_
            refine GL.guardT rfl ?_
            refine GL.bin I0.mono rfl ?_
            refine GL.guardT rfl ?_
            refine GL.pick I0.mono rfl (by conv => lhs; whnf) ?_
            refine GL.guardT rfl ?_
            refine GL.move I0.mono (by conv => lhs; whnf) ?_
            refine GL.splitAt 131 rfl (fun h131 => ?_) (fun h131 => ?_)
            ·rw [h131]
             replace h131 := bne_true h131
             exact absurd h131 (by omega)
            ·rw [h131]
             replace h131 := bne_false h131
             refine GL.guardT rfl ?_
             refine GL.move I0.mono (by conv => lhs; whnf) ?_
             refine GL.guardT rfl ?_
             refine GL.move I0.mono (by conv => lhs; whnf) ?_
             refine GL.guardT rfl ?_
             refine GL.indexAddrF I0.mono (sz := 7) rfl rfl rfl rfl (by omega) (by (rw [em_len]; omega)) (by intro e he; obtain ⟨a, -, rfl⟩ := List.mem_map.1 he; rfl) (by with_reducible exact Int.toNat_natCast _) ?_
             refine GL.guardT rfl ?_
             refine GL.fieldAddrF I0.mono (o := 2) rfl rfl (by conv => lhs; whnf) ?_
             refine GL.guardT rfl ?_
             refine GL.loadF I0.mono rfl rfl (em_get (by omega)) rfl ?_
             refine GL.guardT rfl ?_
             refine GL.fieldAddr I0.mono (o := 0) rfl rfl rfl rfl (by conv => lhs; whnf) ?_
             refine GL.guardT rfl ?_
             refine GL.load I0.mono rfl rfl rfl rfl (by simp) rfl rfl ?_
             refine GL.guardT rfl ?_
             refine GL.move I0.mono (by conv => lhs; whnf) ?_
             refine GL.guardT rfl ?_
             refine GL.subR I0.mono rfl rfl (by omega) ?_
             refine GL.guardT rfl ?_
             refine GL.indexAddrF I0.mono (sz := 1) rfl rfl rfl rfl (by omega) (by (rw [em_len]; omega)) (by intro e he; obtain ⟨a, -, rfl⟩ := List.mem_map.1 he; rfl) (by rfl) ?_
             refine GL.guardT rfl ?_
             refine GL.loadF I0.mono rfl rfl (em_get (by omega)) rfl ?_
             refine GL.guardT rfl ?_
             refine GL.fieldAddr I0.mono (o := 1) rfl rfl rfl rfl (by conv => lhs; whnf) ?_
             refine GL.guardT rfl ?_
             refine GL.load I0.mono rfl rfl rfl rfl (by simp) rfl rfl ?_
             refine GL.guardT rfl ?_
             refine GL.move I0.mono (by conv => lhs; whnf) ?_
             refine GL.guardT rfl ?_
             refine GL.move I0.mono (by conv => lhs; whnf) ?_
             refine GL.guardT rfl ?_
             refine GL.subR I0.mono rfl rfl (by omega) ?_
             refine GL.guardT rfl ?_
             refine GL.indexAddrF I0.mono (sz := 1) rfl rfl rfl rfl (by omega) (by (rw [em_len]; omega)) (by intro e he; obtain ⟨a, -, rfl⟩ := List.mem_map.1 he; rfl) (by rfl) ?_
             refine GL.guardT rfl ?_
             refine GL.loadF I0.mono rfl rfl (em_get (by omega)) rfl ?_
             refine GL.guardT rfl ?_
             refine GL.subR I0.mono rfl rfl (by omega) ?_
             refine GL.guardT rfl ?_
             refine GL.indexAddrF I0.mono (sz := 4) rfl rfl rfl rfl (by omega) (by (rw [em_len]; omega)) (by intro e he; obtain ⟨a, -, rfl⟩ := List.mem_map.1 he; rfl) (by rfl) ?_
             refine GL.guardT rfl ?_
             refine GL.fieldAddrF I0.mono (o := 3) rfl rfl (by conv => lhs; whnf) ?_
             refine GL.guardT rfl ?_
             refine GL.loadF I0.mono rfl rfl (em_get (by omega)) rfl ?_
             refine GL.guardT rfl ?_
             have hsv := hDD.2.2.2.2
             refine GL.addR I0.mono rfl rfl (by omega) ?_
             refine GL.guardT rfl ?_
             refine GL.bin I0.mono rfl ?_
             refine GL.guardT rfl ?_
             refine GL.pick I0.mono rfl (by conv => lhs; whnf) ?_
             refine GL.guardT rfl ?_
             refine GL.pick I0.mono rfl (by conv => lhs; whnf) ?_
             refine GL.guardT rfl ?_
             refine GL.pick I0.mono rfl (by conv => lhs; whnf) ?_
             refine GL.guardT rfl ?_
             refine GL.move I0.mono (by conv => lhs; whnf) ?_
             refine GL.splitAt 159 rfl (fun h159 => ?_) (fun h159 => ?_)
             ·rw [h159]
              replace h159 := bne_true h159
              exact absurd h159 (by omega)
             ·rw [h159]
              replace h159 := bne_false h159
              refine GL.guardT rfl ?_
              refine GL.move I0.mono (by conv => lhs; whnf) ?_
              refine GL.guardT rfl ?_
              refine GL.move I0.mono (by conv => lhs; whnf) ?_
              refine GL.guardT rfl ?_
              refine GL.lenF I0.mono rfl rfl (em_len _ _) ?_
              refine GL.guardT rfl ?_
              refine GL.bin I0.mono rfl ?_
              refine GL.guardT rfl ?_
              refine GL.move I0.mono (by conv => lhs; whnf) ?_
              refine GL.splitAt 164 rfl (fun h164 => ?_) (fun h164 => ?_)
              ·rw [h164]
               replace h164 := of_decide_eq_true h164
               obtain ⟨p4, p5⟩ := (hP h87).tail k (by omega)
               refine GL.guardT rfl ?_
               refine GL.move I0.mono (by conv => lhs; whnf) ?_
               refine GL.guardT rfl ?_
               refine GL.move I0.mono (by conv => lhs; whnf) ?_
               refine GL.guardT rfl ?_
               refine GL.indexAddrF I0.mono (sz := 8) rfl rfl rfl rfl (by omega) (by (rw [em_len]; omega)) (by intro e he; obtain ⟨a, -, rfl⟩ := List.mem_map.1 he; rfl) (by with_reducible exact Int.toNat_natCast _) ?_
               refine GL.guardT rfl ?_
               refine GL.fieldAddrF I0.mono (o := 1) rfl rfl (by conv => lhs; whnf) ?_
               refine GL.guardT rfl ?_
               refine GL.loadF I0.mono rfl rfl (em_get (by omega)) rfl ?_
               refine GL.guardT rfl ?_
               refine GL.move I0.mono (by conv => lhs; whnf) ?_
               refine GL.guardT rfl ?_
               refine GL.move I0.mono (by conv => lhs; whnf) ?_
               refine GL.guardT rfl ?_
               refine GL.indexAddrF I0.mono (sz := 1) rfl rfl rfl rfl (by omega) (by (rw [em_len]; omega)) (by intro e he; obtain ⟨a, -, rfl⟩ := List.mem_map.1 he; rfl) (by with_reducible exact Int.toNat_natCast _) ?_
               refine GL.guardT rfl ?_
               refine GL.loadF I0.mono rfl rfl (em_get (by omega)) rfl ?_
               refine GL.guardT rfl ?_
               refine GL.bin I0.mono rfl ?_
               refine GL.guardT rfl ?_
               refine GL.move I0.mono (by conv => lhs; whnf) ?_
               refine GL.splitAt 175 rfl (fun h175 => ?_) (fun h175 => ?_)
               ·rw [h175]
                replace h175 := bne_true h175
                exact absurd h175 (by omega)
               ·rw [h175]
                replace h175 := bne_false h175
                refine GL.guardT rfl ?_
                refine GL.fieldAddr I0.mono (o := 0) rfl rfl rfl rfl (by conv => lhs; whnf) ?_
                refine GL.guardT rfl ?_
                refine GL.load I0.mono rfl rfl rfl rfl (by simp) rfl rfl ?_
                refine GL.guardT rfl ?_
                refine GL.move I0.mono (by conv => lhs; whnf) ?_
                refine GL.guardT rfl ?_
                refine GL.indexAddrF I0.mono (sz := 1) rfl rfl rfl rfl (by omega) (by (rw [em_len]; omega)) (by intro e he; obtain ⟨a, -, rfl⟩ := List.mem_map.1 he; rfl) (by with_reducible exact Int.toNat_natCast _) ?_
                refine GL.guardT rfl ?_
                refine GL.loadF I0.mono rfl rfl (em_get (by omega)) rfl ?_
                refine GL.guardT rfl ?_
                refine GL.move I0.mono (by conv => lhs; whnf) ?_
                refine GL.guardT rfl ?_
                refine GL.move I0.mono (by conv => lhs; whnf) ?_
                refine GL.guardT rfl ?_
                refine GL.indexAddrF I0.mono (sz := 8) rfl rfl rfl rfl (by omega) (by (rw [em_len]; omega)) (by intro e he; obtain ⟨a, -, rfl⟩ := List.mem_map.1 he; rfl) (by with_reducible exact Int.toNat_natCast _) ?_
                refine GL.guardT rfl ?_
                refine GL.fieldAddrF I0.mono (o := 2) rfl rfl (by conv => lhs; whnf) ?_
                refine GL.guardT rfl ?_
                refine GL.loadF I0.mono rfl rfl (em_get (by omega)) rfl ?_
                refine GL.guardT rfl ?_
                refine GL.bin I0.mono rfl ?_
                refine GL.guardT rfl ?_
                refine GL.pick I0.mono rfl (by conv => lhs; whnf) ?_
                refine GL.guardT rfl ?_
                refine GL.pick I0.mono rfl (by conv => lhs; whnf) ?_
                refine GL.guardT rfl ?_
                refine GL.pick I0.mono rfl (by conv => lhs; whnf) ?_
                refine GL.pick I0.mono rfl (by conv => lhs; whnf) ?_
                refine GL.doneT (by kernel_rfl) ?_
                refine ⟨_, (LessS.weak (LessS.upd (LessS.upd (LessS.upd (LessS.upd (LessS.upd (LessS.upd (LessS.upd (LessS.upd (LessS.upd (LessS.upd (LessS.upd (LessS.upd (LessS.nil _) rfl) rfl) rfl) rfl) (by rfl)) rfl) rfl) rfl) rfl) rfl) rfl) (by exact congrArg LV.bool (decide_eq_false (by omega)))) _), trivial, _, (congrArg (St.mk _) (effM_eq (Has.cons rfl (Has.cons rfl Has.nil))).symm)⟩
              ·rw [h164]
               replace h164 := of_decide_eq_false h164
               refine GL.guardF rfl ?_
               refine GL.guardF rfl ?_
               refine GL.guardF rfl ?_
               refine GL.guardF rfl ?_
               refine GL.guardF rfl ?_
               refine GL.guardF rfl ?_
               refine GL.guardF rfl ?_
               refine GL.guardF rfl ?_
               refine GL.guardF rfl ?_
               refine GL.guardF rfl ?_
               refine GL.guardF rfl ?_
               refine GL.guardF rfl ?_
               refine GL.guardF rfl ?_
               refine GL.guardF rfl ?_
               refine GL.guardF rfl ?_
               refine GL.guardF rfl ?_
               refine GL.guardF rfl ?_
               refine GL.guardF rfl ?_
               refine GL.guardF rfl ?_
               refine GL.guardF rfl ?_
               refine GL.guardF rfl ?_
               refine GL.guardF rfl ?_
               refine GL.guardF rfl ?_
               refine GL.guardT rfl ?_
               refine GL.pick I0.mono rfl (by conv => lhs; whnf) ?_
               refine GL.guardT rfl ?_
               refine GL.pick I0.mono rfl (by conv => lhs; whnf) ?_
               refine GL.pick I0.mono rfl (by conv => lhs; whnf) ?_
               refine GL.doneT (by kernel_rfl) ?_
               refine ⟨_, (LessS.weak (LessS.upd (LessS.upd (LessS.upd (LessS.upd (LessS.upd (LessS.upd (LessS.upd (LessS.upd (LessS.upd (LessS.upd (LessS.upd (LessS.upd (LessS.nil _) rfl) rfl) rfl) rfl) (by rfl)) rfl) rfl) rfl) rfl) rfl) rfl) (by rfl)) _), trivial, _, (congrArg (St.mk _) (effM_eq (Has.cons rfl (Has.cons rfl Has.nil))).symm)⟩
          ·rw [h105]
           replace h105 := of_decide_eq_false h105
           refine GL.guardF rfl ?_
           refine GL.guardF rfl ?_
           refine GL.guardF rfl ?_
           refine GL.guardF rfl ?_
           refine GL.guardF rfl ?_
           refine GL.guardF rfl ?_
           refine GL.guardF rfl ?_
           refine GL.guardF rfl ?_
           refine GL.guardF rfl ?_
           refine GL.guardF rfl ?_
           refine GL.guardF rfl ?_
           refine GL.guardF rfl ?_
           refine GL.guardF rfl ?_
           refine GL.guardF rfl ?_
           refine GL.guardF rfl ?_
           refine GL.guardF rfl ?_
           refine GL.guardF rfl ?_
           refine GL.guardF rfl ?_
           refine GL.guardF rfl ?_
           refine GL.guardF rfl ?_
           refine GL.guardF rfl ?_
           refine GL.guardF rfl ?_
           refine GL.guardF rfl ?_
           refine GL.guardF rfl ?_
           refine GL.guardF rfl ?_
           refine GL.guardF rfl ?_
           refine GL.guardF rfl ?_
           refine GL.guardF rfl ?_
           refine GL.guardF rfl ?_
           refine GL.guardF rfl ?_
           refine GL.guardF rfl ?_
           refine GL.guardF rfl ?_
           refine GL.guardF rfl ?_
           refine GL.guardF rfl ?_
           refine GL.guardF rfl ?_
           refine GL.guardF rfl ?_
           refine GL.guardF rfl ?_
           refine GL.guardF rfl ?_
           refine GL.guardF rfl ?_
           refine GL.guardF rfl ?_
           refine GL.guardF rfl ?_
           refine GL.guardF rfl ?_
           refine GL.guardF rfl ?_
           refine GL.guardF rfl ?_
           refine GL.guardF rfl ?_
           refine GL.guardF rfl ?_
           refine GL.guardF rfl ?_
           refine GL.guardF rfl ?_
           refine GL.guardF rfl ?_
           refine GL.guardF rfl ?_
           refine GL.guardF rfl ?_
           refine GL.guardT rfl ?_
           refine GL.pick I0.mono rfl (by conv => lhs; whnf) ?_
           refine GL.guardT rfl ?_
           refine GL.pick I0.mono rfl (by conv => lhs; whnf) ?_
           refine GL.guardT rfl ?_
           refine GL.move I0.mono (by conv => lhs; whnf) ?_
           refine GL.guardT rfl ?_
           refine GL.move I0.mono (by conv => lhs; whnf) ?_
           refine GL.guardT rfl ?_
           refine GL.move I0.mono (by conv => lhs; whnf) ?_
           refine GL.guardT rfl ?_
           refine GL.lenF I0.mono rfl rfl (em_len _ _) ?_
           refine GL.guardT rfl ?_
           refine GL.bin I0.mono rfl ?_
           refine GL.guardT rfl ?_
           refine GL.move I0.mono (by conv => lhs; whnf) ?_
           refine GL.splitAt 164 rfl (fun h164 => ?_) (fun h164 => ?_)
           ·rw [h164]
            replace h164 := of_decide_eq_true h164
            obtain ⟨p4, p5⟩ := (hP h87).tail k (by omega)
            refine GL.guardT rfl ?_
            refine GL.move I0.mono (by conv => lhs; whnf) ?_
            refine GL.guardT rfl ?_
            refine GL.move I0.mono (by conv => lhs; whnf) ?_
            refine GL.guardT rfl ?_
            refine GL.indexAddrF I0.mono (sz := 8) rfl rfl rfl rfl (by omega) (by (rw [em_len]; omega)) (by intro e he; obtain ⟨a, -, rfl⟩ := List.mem_map.1 he; rfl) (by with_reducible exact Int.toNat_natCast _) ?_
            refine GL.guardT rfl ?_
            refine GL.fieldAddrF I0.mono (o := 1) rfl rfl (by conv => lhs; whnf) ?_
            refine GL.guardT rfl ?_
            refine GL.loadF I0.mono rfl rfl (em_get (by omega)) rfl ?_
            refine GL.guardT rfl ?_
            refine GL.move I0.mono (by conv => lhs; whnf) ?_
            refine GL.guardT rfl ?_
            refine GL.move I0.mono (by conv => lhs; whnf) ?_
            refine GL.guardT rfl ?_
            refine GL.indexAddrF I0.mono (sz := 1) rfl rfl rfl rfl (by omega) (by (rw [em_len]; omega)) (by intro e he; obtain ⟨a, -, rfl⟩ := List.mem_map.1 he; rfl) (by with_reducible exact Int.toNat_natCast _) ?_
            refine GL.guardT rfl ?_
            refine GL.loadF I0.mono rfl rfl (em_get (by omega)) rfl ?_
            refine GL.guardT rfl ?_
            refine GL.bin I0.mono rfl ?_
            refine GL.guardT rfl ?_
            refine GL.move I0.mono (by conv => lhs; whnf) ?_
            refine GL.splitAt 175 rfl (fun h175 => ?_) (fun h175 => ?_)
            ·rw [h175]
             replace h175 := bne_true h175
             exact absurd h175 (by omega)
            ·rw [h175]
             replace h175 := bne_false h175
             refine GL.guardT rfl ?_
             refine GL.fieldAddr I0.mono (o := 0) rfl rfl rfl rfl (by conv => lhs; whnf) ?_
             refine GL.guardT rfl ?_
             refine GL.load I0.mono rfl rfl rfl rfl (by simp) rfl rfl ?_
             refine GL.guardT rfl ?_
             refine GL.move I0.mono (by conv => lhs; whnf) ?_
             refine GL.guardT rfl ?_
             refine GL.indexAddrF I0.mono (sz := 1) rfl rfl rfl rfl (by omega) (by (rw [em_len]; omega)) (by intro e he; obtain ⟨a, -, rfl⟩ := List.mem_map.1 he; rfl) (by with_reducible exact Int.toNat_natCast _) ?_
             refine GL.guardT rfl ?_
             refine GL.loadF I0.mono rfl rfl (em_get (by omega)) rfl ?_
             refine GL.guardT rfl ?_
             refine GL.move I0.mono (by conv => lhs; whnf) ?_
             refine GL.guardT rfl ?_
             refine GL.move I0.mono (by conv => lhs; whnf) ?_
             refine GL.guardT rfl ?_
             refine GL.indexAddrF I0.mono (sz := 8) rfl rfl rfl rfl (by omega) (by (rw [em_len]; omega)) (by intro e he; obtain ⟨a, -, rfl⟩ := List.mem_map.1 he; rfl) (by with_reducible exact Int.toNat_natCast _) ?_
             refine GL.guardT rfl ?_
             refine GL.fieldAddrF I0.mono (o := 2) rfl rfl (by conv => lhs; whnf) ?_
             refine GL.guardT rfl ?_
             refine GL.loadF I0.mono rfl rfl (em_get (by omega)) rfl ?_
             refine GL.guardT rfl ?_
             refine GL.bin I0.mono rfl ?_
             refine GL.guardT rfl ?_
             refine GL.pick I0.mono rfl (by conv => lhs; whnf) ?_
             refine GL.guardT rfl ?_
             refine GL.pick I0.mono rfl (by conv => lhs; whnf) ?_
             refine GL.guardT rfl ?_
             refine GL.pick I0.mono rfl (by conv => lhs; whnf) ?_
             refine GL.pick I0.mono rfl (by conv => lhs; whnf) ?_
             refine GL.doneT (by kernel_rfl) ?_
             refine ⟨_, (LessS.weak (LessS.upd (LessS.upd (LessS.upd (LessS.upd (LessS.upd (LessS.upd (LessS.upd (LessS.upd (LessS.upd (LessS.upd (LessS.upd (LessS.upd (LessS.nil _) rfl) rfl) rfl) rfl) (by rfl)) rfl) rfl) rfl) rfl) rfl) rfl) (by exact congrArg LV.bool (decide_eq_false (by omega)))) _), trivial, _, (congrArg (St.mk _) (effM_eq (Has.cons rfl (Has.cons rfl Has.nil))).symm)⟩
           ·rw [h164]
            replace h164 := of_decide_eq_false h164
            refine GL.guardF rfl ?_
            refine GL.guardF rfl ?_
            refine GL.guardF rfl ?_
            refine GL.guardF rfl ?_
            refine GL.guardF rfl ?_
            refine GL.guardF rfl ?_
            refine GL.guardF rfl ?_
            refine GL.guardF rfl ?_
            refine GL.guardF rfl ?_
            refine GL.guardF rfl ?_
            refine GL.guardF rfl ?_
            refine GL.guardF rfl ?_
            refine GL.guardF rfl ?_
            refine GL.guardF rfl ?_
            refine GL.guardF rfl ?_
            refine GL.guardF rfl ?_
            refine GL.guardF rfl ?_
            refine GL.guardF rfl ?_
            refine GL.guardF rfl ?_
            refine GL.guardF rfl ?_
            refine GL.guardF rfl ?_
            refine GL.guardF rfl ?_
            refine GL.guardF rfl ?_
            refine GL.guardT rfl ?_
            refine GL.pick I0.mono rfl (by conv => lhs; whnf) ?_
            refine GL.guardT rfl ?_
            refine GL.pick I0.mono rfl (by conv => lhs; whnf) ?_
            refine GL.pick I0.mono rfl (by conv => lhs; whnf) ?_
            refine GL.doneT (by kernel_rfl) ?_
            refine ⟨_, (LessS.weak (LessS.upd (LessS.upd (LessS.upd (LessS.upd (LessS.upd (LessS.upd (LessS.upd (LessS.upd (LessS.upd (LessS.upd (LessS.upd (LessS.upd (LessS.nil _) rfl) rfl) rfl) rfl) (by rfl)) rfl) rfl) rfl) rfl) rfl) rfl) (by rfl)) _), trivial, _, (congrArg (St.mk _) (effM_eq (Has.cons rfl (Has.cons rfl Has.nil))).symm)⟩
       ·rw [h87]
        skip
        refine GL.guardF rfl ?_
        refine GL.guardF rfl ?_
        refine GL.guardF rfl ?_
        refine GL.guardF rfl ?_
        refine GL.guardF rfl ?_
        refine GL.guardF rfl ?_
        refine GL.guardF rfl ?_
        refine GL.guardF rfl ?_
        refine GL.guardF rfl ?_
        refine GL.guardF rfl ?_
        refine GL.guardF rfl ?_
        refine GL.guardF rfl ?_
        refine GL.guardF rfl ?_
        refine GL.guardF rfl ?_
        refine GL.guardF rfl ?_
        refine GL.guardF rfl ?_
        refine GL.guardF rfl ?_
        refine GL.guardF rfl ?_
        refine GL.guardF rfl ?_
        refine GL.guardF rfl ?_
        refine GL.guardF rfl ?_
        refine GL.guardF rfl ?_
        refine GL.guardF rfl ?_
        refine GL.guardF rfl ?_
        refine GL.guardF rfl ?_
        refine GL.guardF rfl ?_
        refine GL.guardF rfl ?_
        refine GL.guardF rfl ?_
        refine GL.guardF rfl ?_
        refine GL.guardF rfl ?_
        refine GL.guardF rfl ?_
        refine GL.guardF rfl ?_
        refine GL.guardF rfl ?_
        refine GL.guardF rfl ?_
        refine GL.guardF rfl ?_
        refine GL.guardF rfl ?_
        refine GL.guardF rfl ?_
        refine GL.guardF rfl ?_
        refine GL.guardF rfl ?_
        refine GL.guardF rfl ?_
        refine GL.guardF rfl ?_
        refine GL.guardF rfl ?_
        refine GL.guardF rfl ?_
        refine GL.guardF rfl ?_
        refine GL.guardF rfl ?_
        refine GL.guardF rfl ?_
        refine GL.guardF rfl ?_
        refine GL.guardF rfl ?_
        refine GL.guardF rfl ?_
        refine GL.guardF rfl ?_
        refine GL.guardF rfl ?_
        refine GL.guardF rfl ?_
        refine GL.guardF rfl ?_
        refine GL.guardF rfl ?_
        refine GL.guardF rfl ?_
        refine GL.guardF rfl ?_
        refine GL.guardF rfl ?_
        refine GL.guardF rfl ?_
        refine GL.guardF rfl ?_
        refine GL.guardF rfl ?_
        refine GL.guardF rfl ?_
        refine GL.guardF rfl ?_
        refine GL.guardF rfl ?_
        refine GL.guardF rfl ?_
        refine GL.guardF rfl ?_
        refine GL.guardF rfl ?_
        refine GL.guardF rfl ?_
        refine GL.guardF rfl ?_
        refine GL.guardF rfl ?_
        refine GL.guardF rfl ?_
        refine GL.guardF rfl ?_
        refine GL.guardF rfl ?_
        refine GL.guardF rfl ?_
        refine GL.guardF rfl ?_
        refine GL.guardF rfl ?_
        refine GL.guardF rfl ?_
        refine GL.guardF rfl ?_
        refine GL.guardF rfl ?_
        refine GL.guardF rfl ?_
        refine GL.guardF rfl ?_
        refine GL.guardF rfl ?_
        refine GL.guardF rfl ?_
        refine GL.guardF rfl ?_
        refine GL.guardF rfl ?_
        refine GL.guardF rfl ?_
        refine GL.guardF rfl ?_
        refine GL.guardF rfl ?_
        refine GL.guardF rfl ?_
        refine GL.guardF rfl ?_
        refine GL.guardF rfl ?_
        refine GL.guardF rfl ?_
        refine GL.guardF rfl ?_
        refine GL.guardF rfl ?_
        refine GL.guardF rfl ?_
        refine GL.guardF rfl ?_
        refine GL.guardF rfl ?_
        refine GL.guardF rfl ?_
        refine GL.guardF rfl ?_
        refine GL.guardF rfl ?_
        refine GL.guardF rfl ?_
        refine GL.guardF rfl ?_
        refine GL.guardF rfl ?_
        refine GL.pick I0.mono rfl (by conv => lhs; whnf) ?_
        refine GL.doneT (by kernel_rfl) ?_
        refine ⟨_, (LessS.weak (LessS.upd (LessS.upd (LessS.upd (LessS.upd (LessS.upd (LessS.upd (LessS.upd (LessS.upd (LessS.upd (LessS.upd (LessS.upd (LessS.upd (LessS.nil _) rfl) rfl) rfl) rfl) (by rfl)) rfl) rfl) rfl) rfl) rfl) rfl) (by rfl)) _), trivial, _, (congrArg (St.mk _) (effM_eq (Has.cons rfl (Has.cons rfl Has.nil))).symm)⟩
      ·rintro _ ⟨-, m0, rfl⟩
       refine Wp.condF rfl ?_
       refine Wp.skipI ?_
       refine goOn ?_
       refine Wp.seqI ?_
       refine Wp.regI I0.mono ?_
       refine GL.move I0.mono (by conv => lhs; whnf) ?_
       refine GL.bin I0.mono rfl ?_
       refine GL.move I0.mono (by conv => lhs; whnf) ?_
       refine GL.splitAt 193 rfl (fun h193 => ?_) (fun h193 => ?_)
       ·rw [h193]
        replace h193 := of_decide_eq_true h193
        refine GL.guardT rfl ?_
        refine GL.move I0.mono (by conv => lhs; whnf) ?_
        refine GL.guardT rfl ?_
        refine GL.move I0.mono (by conv => lhs; whnf) ?_
        refine GL.guardT rfl ?_
        refine GL.indexAddrF I0.mono (sz := 7) rfl rfl rfl rfl (by omega) (by (rw [em_len]; omega)) (by intro e he; obtain ⟨a, -, rfl⟩ := List.mem_map.1 he; rfl) (by with_reducible exact Int.toNat_natCast _) ?_
        refine GL.guardT rfl ?_
        refine GL.fieldAddrF I0.mono (o := 0) rfl rfl (by conv => lhs; whnf) ?_
        refine GL.guardT rfl ?_
        refine GL.loadF I0.mono rfl rfl (em_get (by omega)) rfl ?_
        refine GL.pick I0.mono rfl (by conv => lhs; whnf) ?_
        refine GL.move I0.mono (by conv => lhs; whnf) ?_
        refine GL.splitAt 200 rfl (fun h200 => ?_) (fun h200 => ?_)
        ·rw [h200]
         skip
         refine GL.guardT rfl ?_
         refine GL.move I0.mono (by conv => lhs; whnf) ?_
         refine GL.guardT rfl ?_
         refine GL.move I0.mono (by conv => lhs; whnf) ?_
         refine GL.guardT rfl ?_
         refine GL.subR I0.mono rfl rfl (by omega) ?_
         refine GL.guardT rfl ?_
         refine GL.indexAddrF I0.mono (sz := 7) rfl rfl rfl rfl (by omega) (by (rw [em_len]; omega)) (by intro e he; obtain ⟨a, -, rfl⟩ := List.mem_map.1 he; rfl) (by rfl) ?_
         refine GL.guardT rfl ?_
         refine GL.fieldAddrF I0.mono (o := 0) rfl rfl (by conv => lhs; whnf) ?_
         refine GL.guardT rfl ?_
         refine GL.loadF I0.mono rfl rfl (em_get (by omega)) rfl ?_
         refine GL.guardT rfl ?_
         refine GL.un I0.mono rfl ?_
         refine GL.pick I0.mono rfl (by conv => lhs; whnf) ?_
         refine GL.move I0.mono (by conv => lhs; whnf) ?_
         refine GL.splitAt 209 rfl (fun h209 => ?_) (fun h209 => ?_)
         ·rw [h209]
          skip
          (rw [hq1 k (by omega) (by omega) h200] at h209; cases h209)
         ·rw [h209]
          skip
          refine GL.guardT rfl ?_
          refine GL.move I0.mono (by conv => lhs; whnf) ?_
          refine GL.guardT rfl ?_
          refine GL.bin I0.mono rfl ?_
          refine GL.guardT rfl ?_
          refine GL.move I0.mono (by conv => lhs; whnf) ?_
          refine GL.splitAt 212 rfl (fun h212 => ?_) (fun h212 => ?_)
          ·rw [h212]
           replace h212 := of_decide_eq_true h212
           refine GL.guardT rfl ?_
           refine GL.move I0.mono (by conv => lhs; whnf) ?_
           refine GL.guardT rfl ?_
           refine GL.move I0.mono (by conv => lhs; whnf) ?_
           refine GL.guardT rfl ?_
           refine GL.subR I0.mono rfl rfl (by omega) ?_
           refine GL.guardT rfl ?_
           refine GL.indexAddrF I0.mono (sz := 8) rfl rfl rfl rfl (by omega) (by (rw [em_len]; omega)) (by intro e he; obtain ⟨a, -, rfl⟩ := List.mem_map.1 he; rfl) (by rfl) ?_
           refine GL.guardT rfl ?_
           refine GL.fieldAddrF I0.mono (o := 0) rfl rfl (by conv => lhs; whnf) ?_
           refine GL.guardT rfl ?_
           refine GL.loadF I0.mono rfl rfl (em_get (by omega)) rfl ?_
           refine GL.guardT rfl ?_
           refine GL.pick I0.mono rfl (by conv => lhs; whnf) ?_
           refine GL.guardT rfl ?_
           refine GL.move I0.mono (by conv => lhs; whnf) ?_
           refine GL.splitAt 220 rfl (fun h220 => ?_) (fun h220 => ?_)
           ·rw [h220]
            skip
            refine GL.guardT rfl ?_
            refine GL.move I0.mono (by conv => lhs; whnf) ?_
            refine GL.guardT rfl ?_
            refine GL.move I0.mono (by conv => lhs; whnf) ?_
            refine GL.guardT rfl ?_
            refine GL.indexAddrF I0.mono (sz := 8) rfl rfl rfl rfl (by omega) (by (rw [em_len]; omega)) (by intro e he; obtain ⟨a, -, rfl⟩ := List.mem_map.1 he; rfl) (by with_reducible exact Int.toNat_natCast _) ?_
            refine GL.guardT rfl ?_
            refine GL.fieldAddrF I0.mono (o := 0) rfl rfl (by conv => lhs; whnf) ?_
            refine GL.guardT rfl ?_
            refine GL.loadF I0.mono rfl rfl (em_get (by omega)) rfl ?_
            refine GL.guardT rfl ?_
            refine GL.un I0.mono rfl ?_
            refine GL.guardT rfl ?_
            refine GL.pick I0.mono rfl (by conv => lhs; whnf) ?_
            refine GL.pick I0.mono rfl (by conv => lhs; whnf) ?_
            refine GL.doneF ?_
            refine goOn ?_
            refine Wp.condI rfl (fun h228 => ?_) (fun h228 => ?_)
            ·skip
             (rw [hq2 k (by omega) (by omega) h220] at h228; cases h228)
            ·skip
             refine Wp.skipI ?_
             refine blockX.normal ?_
             refine goOn ?_
             refine Wp.regI I0.mono ?_
             refine GL.addR I0.mono rfl rfl (by omega) ?_
             refine GL.move I0.mono (by conv => lhs; whnf) ?_
             refine GL.doneF ?_
             refine ⟨k + 1, (by dsimp only; omega), _, (LessS.weak (LessS.upd (LessS.upd (LessS.upd (LessS.upd (LessS.upd (LessS.upd (LessS.upd (LessS.upd (LessS.upd (LessS.upd (LessS.nil _) rfl) rfl) rfl) rfl) rfl) rfl) rfl) rfl) rfl) rfl) _), (by omega), _, (congrArg (St.mk _) (effM_eq (Has.cons rfl (Has.cons rfl Has.nil))).symm)⟩
           ·rw [h220]
            skip
            refine GL.guardF rfl ?_
            refine GL.guardF rfl ?_
            refine GL.guardF rfl ?_
            refine GL.guardF rfl ?_
            refine GL.guardF rfl ?_
            refine GL.guardF rfl ?_
            refine GL.guardT rfl ?_
            refine GL.pick I0.mono rfl (by conv => lhs; whnf) ?_
            refine GL.pick I0.mono rfl (by conv => lhs; whnf) ?_
            refine GL.doneF ?_
            refine goOn ?_
            refine Wp.condF rfl ?_
            refine Wp.skipI ?_
            refine blockX.normal ?_
            refine goOn ?_
            refine Wp.regI I0.mono ?_
            refine GL.addR I0.mono rfl rfl (by omega) ?_
            refine GL.move I0.mono (by conv => lhs; whnf) ?_
            refine GL.doneF ?_
            refine ⟨k + 1, (by dsimp only; omega), _, (LessS.weak (LessS.upd (LessS.upd (LessS.upd (LessS.upd (LessS.upd (LessS.upd (LessS.upd (LessS.upd (LessS.upd (LessS.upd (LessS.nil _) rfl) rfl) rfl) rfl) rfl) rfl) rfl) rfl) rfl) rfl) _), (by omega), _, (congrArg (St.mk _) (effM_eq (Has.cons rfl (Has.cons rfl Has.nil))).symm)⟩
          ·rw [h212]
           replace h212 := of_decide_eq_false h212
           refine GL.guardF rfl ?_
           refine GL.guardF rfl ?_
           refine GL.guardF rfl ?_
           refine GL.guardF rfl ?_
           refine GL.guardF rfl ?_
           refine GL.guardF rfl ?_
           refine GL.guardT rfl ?_
           refine GL.pick I0.mono rfl (by conv => lhs; whnf) ?_
           refine GL.guardT rfl ?_
           refine GL.move I0.mono (by conv => lhs; whnf) ?_
           refine GL.guardF rfl ?_
           refine GL.guardF rfl ?_
           refine GL.guardF rfl ?_
           refine GL.guardF rfl ?_
           refine GL.guardF rfl ?_
           refine GL.guardF rfl ?_
           refine GL.guardT rfl ?_
           refine GL.pick I0.mono rfl (by conv => lhs; whnf) ?_
           refine GL.pick I0.mono rfl (by conv => lhs; whnf) ?_
           refine GL.doneF ?_
           refine goOn ?_
           refine Wp.condF rfl ?_
           refine Wp.skipI ?_
           refine blockX.normal ?_
           refine goOn ?_
           refine Wp.regI I0.mono ?_
           refine GL.addR I0.mono rfl rfl (by omega) ?_
           refine GL.move I0.mono (by conv => lhs; whnf) ?_
           refine GL.doneF ?_
           refine ⟨k + 1, (by dsimp only; omega), _, (LessS.weak (LessS.upd (LessS.upd (LessS.upd (LessS.upd (LessS.upd (LessS.upd (LessS.upd (LessS.upd (LessS.upd (LessS.upd (LessS.nil _) rfl) rfl) rfl) rfl) rfl) rfl) rfl) rfl) rfl) rfl) _), (by omega), _, (congrArg (St.mk _) (effM_eq (Has.cons rfl (Has.cons rfl Has.nil))).symm)⟩
        ·rw [h200]
         skip
         refine GL.guardF rfl ?_
         refine GL.guardF rfl ?_
         refine GL.guardF rfl ?_
         refine GL.guardF rfl ?_
         refine GL.guardF rfl ?_
         refine GL.guardF rfl ?_
         refine GL.guardF rfl ?_
         refine GL.pick I0.mono rfl (by conv => lhs; whnf) ?_
         refine GL.move I0.mono (by conv => lhs; whnf) ?_
         refine GL.guardT rfl ?_
         refine GL.move I0.mono (by conv => lhs; whnf) ?_
         refine GL.guardT rfl ?_
         refine GL.bin I0.mono rfl ?_
         refine GL.guardT rfl ?_
         refine GL.move I0.mono (by conv => lhs; whnf) ?_
         refine GL.splitAt 212 rfl (fun h212 => ?_) (fun h212 => ?_)
         ·rw [h212]
          replace h212 := of_decide_eq_true h212
          refine GL.guardT rfl ?_
          refine GL.move I0.mono (by conv => lhs; whnf) ?_
          refine GL.guardT rfl ?_
          refine GL.move I0.mono (by conv => lhs; whnf) ?_
          refine GL.guardT rfl ?_
          refine GL.subR I0.mono rfl rfl (by omega) ?_
          refine GL.guardT rfl ?_
          refine GL.indexAddrF I0.mono (sz := 8) rfl rfl rfl rfl (by omega) (by (rw [em_len]; omega)) (by intro e he; obtain ⟨a, -, rfl⟩ := List.mem_map.1 he; rfl) (by rfl) ?_
          refine GL.guardT rfl ?_
          refine GL.fieldAddrF I0.mono (o := 0) rfl rfl (by conv => lhs; whnf) ?_
          refine GL.guardT rfl ?_
          refine GL.loadF I0.mono rfl rfl (em_get (by omega)) rfl ?_
          refine GL.guardT rfl ?_
          refine GL.pick I0.mono rfl (by conv => lhs; whnf) ?_
          refine GL.guardT rfl ?_
          refine GL.move I0.mono (by conv => lhs; whnf) ?_
          refine GL.splitAt 220 rfl (fun h220 => ?_) (fun h220 => ?_)
          ·rw [h220]
           skip
           refine GL.guardT rfl ?_
           refine GL.move I0.mono (by conv => lhs; whnf) ?_
           refine GL.guardT rfl ?_
           refine GL.move I0.mono (by conv => lhs; whnf) ?_
           refine GL.guardT rfl ?_
           refine GL.indexAddrF I0.mono (sz := 8) rfl rfl rfl rfl (by omega) (by (rw [em_len]; omega)) (by intro e he; obtain ⟨a, -, rfl⟩ := List.mem_map.1 he; rfl) (by with_reducible exact Int.toNat_natCast _) ?_
           refine GL.guardT rfl ?_
           refine GL.fieldAddrF I0.mono (o := 0) rfl rfl (by conv => lhs; whnf) ?_
           refine GL.guardT rfl ?_
           refine GL.loadF I0.mono rfl rfl (em_get (by omega)) rfl ?_
           refine GL.guardT rfl ?_
           refine GL.un I0.mono rfl ?_
           refine GL.guardT rfl ?_
           refine GL.pick I0.mono rfl (by conv => lhs; whnf) ?_
           refine GL.pick I0.mono rfl (by conv => lhs; whnf) ?_
           refine GL.doneF ?_
           refine goOn ?_
           refine Wp.condI rfl (fun h228 => ?_) (fun h228 => ?_)
           ·skip
            (rw [hq2 k (by omega) (by omega) h220] at h228; cases h228)
           ·skip
            refine Wp.skipI ?_
            refine blockX.normal ?_
            refine goOn ?_
            refine Wp.regI I0.mono ?_
            refine GL.addR I0.mono rfl rfl (by omega) ?_
            refine GL.move I0.mono (by conv => lhs; whnf) ?_
            refine GL.doneF ?_
            refine ⟨k + 1, (by dsimp only; omega), _, (LessS.weak (LessS.upd (LessS.upd (LessS.upd (LessS.upd (LessS.upd (LessS.upd (LessS.upd (LessS.upd (LessS.upd (LessS.upd (LessS.nil _) rfl) rfl) rfl) rfl) rfl) rfl) rfl) rfl) rfl) rfl) _), (by omega), _, (congrArg (St.mk _) (effM_eq (Has.cons rfl (Has.cons rfl Has.nil))).symm)⟩
          ·rw [h220]
           skip
           refine GL.guardF rfl ?_
           refine GL.guardF rfl ?_
           refine GL.guardF rfl ?_
           refine GL.guardF rfl ?_
           refine GL.guardF rfl ?_
           refine GL.guardF rfl ?_
           refine GL.guardT rfl ?_
           refine GL.pick I0.mono rfl (by conv => lhs; whnf) ?_
           refine GL.pick I0.mono rfl (by conv => lhs; whnf) ?_
           refine GL.doneF ?_
           refine goOn ?_
           refine Wp.condF rfl ?_
           refine Wp.skipI ?_
           refine blockX.normal ?_
           refine goOn ?_
           refine Wp.regI I0.mono ?_
           refine GL.addR I0.mono rfl rfl (by omega) ?_
           refine GL.move I0.mono (by conv => lhs; whnf) ?_
           refine GL.doneF ?_
           refine ⟨k + 1, (by dsimp only; omega), _, (LessS.weak (LessS.upd (LessS.upd (LessS.upd (LessS.upd (LessS.upd (LessS.upd (LessS.upd (LessS.upd (LessS.upd (LessS.upd (LessS.nil _) rfl) rfl) rfl) rfl) rfl) rfl) rfl) rfl) rfl) rfl) _), (by omega), _, (congrArg (St.mk _) (effM_eq (Has.cons rfl (Has.cons rfl Has.nil))).symm)⟩
         ·rw [h212]
          replace h212 := of_decide_eq_false h212
          refine GL.guardF rfl ?_
          refine GL.guardF rfl ?_
          refine GL.guardF rfl ?_
          refine GL.guardF rfl ?_
          refine GL.guardF rfl ?_
          refine GL.guardF rfl ?_
          refine GL.guardT rfl ?_
          refine GL.pick I0.mono rfl (by conv => lhs; whnf) ?_
          refine GL.guardT rfl ?_
          refine GL.move I0.mono (by conv => lhs; whnf) ?_
          refine GL.guardF rfl ?_
          refine GL.guardF rfl ?_
          refine GL.guardF rfl ?_
          refine GL.guardF rfl ?_
          refine GL.guardF rfl ?_
          refine GL.guardF rfl ?_
          refine GL.guardT rfl ?_
          refine GL.pick I0.mono rfl (by conv => lhs; whnf) ?_
          refine GL.pick I0.mono rfl (by conv => lhs; whnf) ?_
          refine GL.doneF ?_
          refine goOn ?_
          refine Wp.condF rfl ?_
          refine Wp.skipI ?_
          refine blockX.normal ?_
          refine goOn ?_
          refine Wp.regI I0.mono ?_
          refine GL.addR I0.mono rfl rfl (by omega) ?_
          refine GL.move I0.mono (by conv => lhs; whnf) ?_
          refine GL.doneF ?_
          refine ⟨k + 1, (by dsimp only; omega), _, (LessS.weak (LessS.upd (LessS.upd (LessS.upd (LessS.upd (LessS.upd (LessS.upd (LessS.upd (LessS.upd (LessS.upd (LessS.upd (LessS.nil _) rfl) rfl) rfl) rfl) rfl) rfl) rfl) rfl) rfl) rfl) _), (by omega), _, (congrArg (St.mk _) (effM_eq (Has.cons rfl (Has.cons rfl Has.nil))).symm)⟩
       ·rw [h193]
        replace h193 := of_decide_eq_false h193
        refine GL.guardF rfl ?_
        refine GL.guardF rfl ?_
        refine GL.guardF rfl ?_
        refine GL.guardF rfl ?_
        refine GL.guardF rfl ?_
        refine GL.pick I0.mono rfl (by conv => lhs; whnf) ?_
        refine GL.move I0.mono (by conv => lhs; whnf) ?_
        refine GL.guardF rfl ?_
        refine GL.guardF rfl ?_
        refine GL.guardF rfl ?_
        refine GL.guardF rfl ?_
        refine GL.guardF rfl ?_
        refine GL.guardF rfl ?_
        refine GL.guardF rfl ?_
        refine GL.pick I0.mono rfl (by conv => lhs; whnf) ?_
        refine GL.move I0.mono (by conv => lhs; whnf) ?_
        refine GL.guardT rfl ?_
        refine GL.move I0.mono (by conv => lhs; whnf) ?_
        refine GL.guardT rfl ?_
        refine GL.bin I0.mono rfl ?_
        refine GL.guardT rfl ?_
        refine GL.move I0.mono (by conv => lhs; whnf) ?_
        refine GL.splitAt 212 rfl (fun h212 => ?_) (fun h212 => ?_)
        ·rw [h212]
         replace h212 := of_decide_eq_true h212
         refine GL.guardT rfl ?_
         refine GL.move I0.mono (by conv => lhs; whnf) ?_
         refine GL.guardT rfl ?_
         refine GL.move I0.mono (by conv => lhs; whnf) ?_
         refine GL.guardT rfl ?_
         refine GL.subR I0.mono rfl rfl (by omega) ?_
         refine GL.guardT rfl ?_
         refine GL.indexAddrF I0.mono (sz := 8) rfl rfl rfl rfl (by omega) (by omega) (by intro e he; obtain ⟨a, -, rfl⟩ := List.mem_map.1 he; rfl) (by rfl) ?_
         refine GL.guardT rfl ?_
         refine GL.fieldAddrF I0.mono (o := 0) rfl rfl (by conv => lhs; whnf) ?_
         refine GL.guardT rfl ?_
         refine GL.loadF I0.mono rfl rfl (em_get (by omega)) rfl ?_
         refine GL.guardT rfl ?_
         refine GL.pick I0.mono rfl (by conv => lhs; whnf) ?_
         refine GL.guardT rfl ?_
         refine GL.move I0.mono (by conv => lhs; whnf) ?_
         refine GL.splitAt 220 rfl (fun h220 => ?_) (fun h220 => ?_)
         ·rw [h220]
          skip
          refine GL.guardT rfl ?_
          refine GL.move I0.mono (by conv => lhs; whnf) ?_
          refine GL.guardT rfl ?_
          refine GL.move I0.mono (by conv => lhs; whnf) ?_
          refine GL.guardT rfl ?_
          refine GL.indexAddrF I0.mono (sz := 8) rfl rfl rfl rfl (by omega) (by omega) (by intro e he; obtain ⟨a, -, rfl⟩ := List.mem_map.1 he; rfl) (by with_reducible exact Int.toNat_natCast _) ?_
          refine GL.guardT rfl ?_
          refine GL.fieldAddrF I0.mono (o := 0) rfl rfl (by conv => lhs; whnf) ?_
          refine GL.guardT rfl ?_
          refine GL.loadF I0.mono rfl rfl (em_get (by omega)) rfl ?_
          refine GL.guardT rfl ?_
          refine GL.un I0.mono rfl ?_
          refine GL.guardT rfl ?_
          refine GL.pick I0.mono rfl (by conv => lhs; whnf) ?_
          refine GL.pick I0.mono rfl (by conv => lhs; whnf) ?_
          refine GL.doneF ?_
          refine goOn ?_
          refine Wp.condI rfl (fun h228 => ?_) (fun h228 => ?_)
          ·skip
           (rw [hq2 k (by omega) (by omega) h220] at h228; cases h228)
          ·skip
           refine Wp.skipI ?_
           refine blockX.normal ?_
           refine goOn ?_
           refine Wp.regI I0.mono ?_
           refine GL.addR I0.mono rfl rfl (by omega) ?_
           refine GL.move I0.mono (by conv => lhs; whnf) ?_
           refine GL.doneF ?_
           refine ⟨k + 1, (by dsimp only; omega), _, (LessS.weak (LessS.upd (LessS.upd (LessS.upd (LessS.upd (LessS.upd (LessS.upd (LessS.upd (LessS.upd (LessS.upd (LessS.upd (LessS.nil _) rfl) rfl) rfl) rfl) rfl) rfl) rfl) rfl) rfl) rfl) _), (by omega), _, (congrArg (St.mk _) (effM_eq (Has.cons rfl (Has.cons rfl Has.nil))).symm)⟩
         ·rw [h220]
          skip
          refine GL.guardF rfl ?_
          refine GL.guardF rfl ?_
          refine GL.guardF rfl ?_
          refine GL.guardF rfl ?_
          refine GL.guardF rfl ?_
          refine GL.guardF rfl ?_
          refine GL.guardT rfl ?_
          refine GL.pick I0.mono rfl (by conv => lhs; whnf) ?_
          refine GL.pick I0.mono rfl (by conv => lhs; whnf) ?_
          refine GL.doneF ?_
          refine goOn ?_
          refine Wp.condF rfl ?_
          refine Wp.skipI ?_
          refine blockX.normal ?_
          refine goOn ?_
          refine Wp.regI I0.mono ?_
          refine GL.addR I0.mono rfl rfl (by omega) ?_
          refine GL.move I0.mono (by conv => lhs; whnf) ?_
          refine GL.doneF ?_
          refine ⟨k + 1, (by dsimp only; omega), _, (LessS.weak (LessS.upd (LessS.upd (LessS.upd (LessS.upd (LessS.upd (LessS.upd (LessS.upd (LessS.upd (LessS.upd (LessS.upd (LessS.nil _) rfl) rfl) rfl) rfl) rfl) rfl) rfl) rfl) rfl) rfl) _), (by omega), _, (congrArg (St.mk _) (effM_eq (Has.cons rfl (Has.cons rfl Has.nil))).symm)⟩
        ·rw [h212]
         replace h212 := of_decide_eq_false h212
         refine GL.guardF rfl ?_
         refine GL.guardF rfl ?_
         refine GL.guardF rfl ?_
         refine GL.guardF rfl ?_
         refine GL.guardF rfl ?_
         refine GL.guardF rfl ?_
         refine GL.guardT rfl ?_
         refine GL.pick I0.mono rfl (by conv => lhs; whnf) ?_
         refine GL.guardT rfl ?_
         refine GL.move I0.mono (by conv => lhs; whnf) ?_
         refine GL.guardF rfl ?_
         refine GL.guardF rfl ?_
         refine GL.guardF rfl ?_
         refine GL.guardF rfl ?_
         refine GL.guardF rfl ?_
         refine GL.guardF rfl ?_
         refine GL.guardT rfl ?_
         refine GL.pick I0.mono rfl (by conv => lhs; whnf) ?_
         refine GL.pick I0.mono rfl (by conv => lhs; whnf) ?_
         refine GL.doneF ?_
         refine goOn ?_
         refine Wp.condF rfl ?_
         refine Wp.skipI ?_
         refine blockX.normal ?_
         refine goOn ?_
         refine Wp.regI I0.mono ?_
         refine GL.addR I0.mono rfl rfl (by omega) ?_
         refine GL.move I0.mono (by conv => lhs; whnf) ?_
         refine GL.doneF ?_
         refine ⟨k + 1, (by dsimp only; omega), _, (LessS.weak (LessS.upd (LessS.upd (LessS.upd (LessS.upd (LessS.upd (LessS.upd (LessS.upd (LessS.upd (LessS.upd (LessS.upd (LessS.nil _) rfl) rfl) rfl) rfl) rfl) rfl) rfl) rfl) rfl) rfl) _), (by omega), _, (congrArg (St.mk _) (effM_eq (Has.cons rfl (Has.cons rfl Has.nil))).symm)⟩
    ·replace h58 := of_decide_eq_false h58
     refine Wp.exitI ?_
     refine thenX.exit ?_
     refine thenX.exit ?_
     refine blockX.out ?_
     refine goOn ?_
     refine Wp.seqI ?_
     refine Wp.regI I0.mono ?_
     refine GL.call0 I0.mono rfl (Frz.aggn) (wakes5_ok) rfl rfl (fun _ => rfl) ?_
     refine GL.assign I0.mono (by conv => lhs; whnf) ?_
     refine GL.doneF ?_
     refine goOn ?_
     refine Wp.retI ?_
     refine RetX.ret ?_
     refine ⟨_, _, _, _, .cons (.tmp rfl) .nil, .frz (.pure rfl), List.nodup_nil, by simp, ?_⟩
     rfl


theorem law_TabParts (z0 : List Int) (h0 : Ints z0) (z1 : List Int) (h1 : Ints z1) (n : Int) : CallsV Try.prog 11 [.sl (em ni z0), .sl (em ni z1), .int .i64 n] (.bool true) := by
  have hb := inst_sb z0
  have hp := inst_sp z0
  have hsd := inst_sd z0
  have ht := tb_inst hb hsd
  have hci := within_in (a := n) (n := (instOf z0).cars.length) (by have := hb.sq.cars0; omega)
  have hr := row_short (instOf z0) z1
  have hT : isT (instOf z0) (within n (instOf z0).cars.length) 0 = true := isT_mk ⟨hci.1, hci.2, by omega, by omega⟩
  have e1 := heads_ok (instOf z0) ht (within n (instOf z0).cars.length) (rowOf (instOf z0) z1) (by unfold Short; omega)
  have e2 := tails_ok (instOf z0) ht (within n (instOf z0).cars.length) (rowOf (instOf z0) z1) (by unfold Short; omega)
  rw [heads, if_pos hT] at e1
  rw [tails, if_pos hT] at e2
  have e3 := reval_ok (instOf z0) (nStops z0) hb hp (within n (instOf z0).cars.length) (rowOf (instOf z0) z1) (by omega)
  have e4 : ∀ k : Nat, k ≤ (rowOf (instOf z0) z1).length → CallsV Try.prog 39 [ei (instOf z0), .int .i64 (within n (instOf z0).cars.length), .agg (nh ((headsK (instOf z0) (within n (instOf z0).cars.length) (rowOf (instOf z0) z1) (rowOf (instOf z0) z1).length).getD k default)), .agg (nl ((tailsK (instOf z0) (within n (instOf z0).cars.length) (rowOf (instOf z0) z1) 0).getD k default))] (.tup [.int .i64 (((eval (instOf z0) (within n (instOf z0).cars.length) (rowOf (instOf z0) z1)).map (·.t2)).getD 0), .bool ((eval (instOf z0) (within n (instOf z0).cars.length) (rowOf (instOf z0) z1)).map (·.t2)).isSome]) := fun k hk => by
    rw [headsK_get _ _ _ hk, tailsK_get _ _ _ hk, if_neg (Nat.not_lt_zero _)]
    have := meet_ok (instOf z0) hb.sq.short (within n (instOf z0).cars.length) (headOf (instOf z0) (within n (instOf z0).cars.length) ((rowOf (instOf z0) z1).take k)) (tailOf (instOf z0) (within n (instOf z0).cars.length) ((rowOf (instOf z0) z1).drop k))
    rwa [meet_at hb hp hsd hci.1 hci.2 (by omega)] at this
  cases he : eval (instOf z0) (within n (instOf z0).cars.length) (rowOf (instOf z0) z1) with
  | none =>
    rw [he] at e3 e4
    exact tq_walk z0 z1 n (instOf z0) (nStops z0) hb (inst_ok z0 h0) _ (row_ok _ hb.sq.short z1 h1) hr _ rfl _ _ e1 e2 (headsK_len _ _ _ _) (tailsK_len _ _ _ _) zeroT false e3 (fun k hk => ⟨_, e4 k hk, fun h => (by cases h)⟩) (fun h => (by cases h)) (fun h => (by cases h)) (fun k hk h0 h => heads_prev _ _ _ hk h0 h) fun k hk h0 h => tails_next _ _ _ hk h0 h
  | some T =>
    rw [he] at e3 e4
    exact tq_walk z0 z1 n (instOf z0) (nStops z0) hb (inst_ok z0 h0) _ (row_ok _ hb.sq.short z1 h1) hr _ rfl _ _ e1 e2 (headsK_len _ _ _ _) (tailsK_len _ _ _ _) T true e3 (fun k hk => ⟨_, e4 k hk, fun _ => rfl⟩) (fun _ => drv_of hb hci.1 hci.2 (by omega) he) (fun _ => parts_of hb hp hsd hci.1 hci.2 (by omega) he) (fun k hk h0 h => heads_prev _ _ _ hk h0 h) fun k hk h0 h => tails_next _ _ _ hk h0 h

end Go.Proofs.Ytpepcfombibpeaa
