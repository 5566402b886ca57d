/- The law of what meets, walked. -/
import Derived.Test.YtpepcfombibpeaaFg
import Derived.Test.YtpepcfombibpeaaFk
import Derived.Test.YtpepcfombibpeaaFp
import Derived.Test.YtpepcfombibpeaaFw
import Derived.Test.YtpepcfombibpeaaMvC
import Derived.KernelRfl
set_option linter.unusedVariables false
set_option linter.unusedSimpArgs false
namespace Go.Proofs.Ytpepcfombibpeaa
open Go.Proofs Mv



theorem tb_inst {i : Inst} {N : Nat} (hb : Sb i N) (hsd : Sd i) : Tb i := ⟨hb.sq.short, by have := hb.sq.stops; have := hb.sq.high; omega, fun n => by have := mate_in hb hsd n; omega⟩

set_option maxRecDepth 100000 in
set_option maxHeartbeats 4000000 in
theorem tm_walk (z0 z1 z2 : List Int) (n : Int) (I : Inst) (hs : I.Short) (hcn : I.cars.length ≤ 3) (hI : CallsV Try.prog 29 [.sl (em ni z0)] (ei I)) (r s : List Int) (hr : CallsV Try.prog 30 [ei I, .sl (em ni z1)] (.sl (em ni r))) (hs2 : CallsV Try.prog 30 [ei I, .sl (em ni z2)] (.sl (em ni s))) (hrl : r.length ≤ 14) (hsl : s.length ≤ 14) (c : Int) (hc : within n I.cars.length = c) (HL : List Head) (TL : List Tail) (hH : CallsV Try.prog 38 [ei I, .int .i64 c, .sl (em ni r)] (.sl (em nh HL))) (hT : CallsV Try.prog 35 [ei I, .int .i64 c, .sl (em ni s)] (.sl (em nl TL))) (hHl : HL.length = r.length + 1) (hTl : TL.length = s.length + 1) (hpair : ∀ j k : Nat, j ≤ r.length → k ≤ s.length → ∃ (cc : Int) (bb : Bool) (TT : Trip), CallsV Try.prog 39 [ei I, .int .i64 c, .agg (nh (HL.getD j default)), .agg (nl (TL.getD k default))] (.tup [.int .i64 cc, .bool bb]) ∧ (∀ l, l = r.take j ++ s.drop k → CallsV Try.prog 32 [ei I, .int .i64 c, .sl (em ni l)] (.tup [.agg (nt TT), .bool bb])) ∧ (bb = true → cc = TT.t2) ∧ (bb = false → cc = 0)) : CallsV Try.prog 13 [.sl (em ni z0), .sl (em ni z1), .sl (em ni z2), .int .i64 n] (.bool true) := by
  refine CallsR.intro (I0.sound _) mix Try.func13 rfl rfl (by simp [Try.f13]) (by kernel_rfl) (nb := 0) ?_
  unfold Try.f13
  refine Wp.seqI ?_
  refine Wp.regI I0.mono ?_
  refine GL.assign I0.mono (by conv => lhs; whnf) ?_
  refine GL.doneF ?_
  refine goOn ?_
  refine Wp.seqI ?_
  refine Wp.regI I0.mono ?_
  refine GL.move I0.mono (by conv => lhs; whnf) ?_
  refine GL.call0 I0.mono rfl (Frz.aggc (by exact Frz.pure rfl) (Frz.aggn)) (hI) rfl rfl (fun _ => rfl) ?_
  refine GL.alloc I0.mono (cs := [LV.nils, LV.nils, LV.nils, LV.nils]) rfl rfl ?_
  intro g9
  refine GL.storeW I0.mono (n := 4) rfl rfl rfl rfl rfl rfl rfl (by conv => lhs; whnf) rfl rfl rfl ?_
  refine GL.doneF ?_
  refine goOn ?_
  refine Wp.seqI ?_
  refine Wp.regI I0.mono ?_
  refine GL.move I0.mono (by conv => lhs; whnf) ?_
  refine GL.fieldAddr I0.mono (o := 0) rfl rfl rfl rfl (by conv => lhs; whnf) ?_
  refine GL.load I0.mono rfl rfl rfl rfl (by simp) rfl rfl ?_
  refine GL.lenF I0.mono rfl rfl (em_len _ _) ?_
  refine GL.call0 I0.mono rfl (Frz.aggc (by exact Frz.pure rfl) (Frz.aggc (by exact Frz.pure rfl) (Frz.aggn))) ((hc ▸ within_ok _ _ (by omega))) rfl rfl (fun _ => rfl) ?_
  refine GL.assign I0.mono (by conv => lhs; whnf) ?_
  refine GL.doneF ?_
  refine goOn ?_
  refine Wp.seqI ?_
  refine Wp.regD ?_
  refine GL.loadW I0.mono (n := 4) rfl rfl rfl rfl (by simp) rfl rfl rfl ?_
  refine GL.move I0.mono (by conv => lhs; whnf) ?_
  refine GL.call0 I0.mono rfl (Frz.aggc (by exact Frz.pures rfl) (Frz.aggc (by exact Frz.pure rfl) (Frz.aggn))) (hr) rfl rfl (fun _ => rfl) ?_
  refine GL.loadW I0.mono (n := 4) rfl rfl rfl rfl (by simp) rfl rfl rfl ?_
  refine GL.move I0.mono (by conv => lhs; whnf) ?_
  refine GL.call0 I0.mono rfl (Frz.aggc (by exact Frz.pures rfl) (Frz.aggc (by exact Frz.pure rfl) (Frz.aggn))) (hs2) rfl rfl (fun _ => rfl) ?_
  refine GL.assign I0.mono (by conv => lhs; whnf) ?_
  refine GL.assign I0.mono (by conv => lhs; whnf) ?_
  refine GL.doneT (by kernel_rfl) ?_
  refine goOn ?_
  refine Wp.seqI ?_
  refine Wp.regD ?_
  refine GL.loadW I0.mono (n := 4) rfl rfl rfl rfl (by simp) rfl rfl rfl ?_
  refine GL.move I0.mono (by conv => lhs; whnf) ?_
  refine GL.move I0.mono (by conv => lhs; whnf) ?_
  refine GL.call0 I0.mono rfl (Frz.aggc (by exact Frz.pures rfl) (Frz.aggc (by exact Frz.pure rfl) (Frz.aggc (by exact Frz.pure rfl) (Frz.aggn)))) (hH) rfl rfl (fun _ => rfl) ?_
  refine GL.loadW I0.mono (n := 4) rfl rfl rfl rfl (by simp) rfl rfl rfl ?_
  refine GL.move I0.mono (by conv => lhs; whnf) ?_
  refine GL.move I0.mono (by conv => lhs; whnf) ?_
  refine GL.call0 I0.mono rfl (Frz.aggc (by exact Frz.pures rfl) (Frz.aggc (by exact Frz.pure rfl) (Frz.aggc (by exact Frz.pure rfl) (Frz.aggn)))) (hT) rfl rfl (fun _ => rfl) ?_
  refine GL.assign I0.mono (by conv => lhs; whnf) ?_
  refine GL.assign I0.mono (by conv => lhs; whnf) ?_
  refine GL.doneT (by kernel_rfl) ?_
  refine goOn ?_
  refine Wp.seqI ?_
  refine Wp.seqI ?_
  refine Wp.regI I0.mono ?_
  refine GL.move I0.mono (by conv => lhs; whnf) ?_
  refine GL.lenF I0.mono rfl rfl (em_len _ _) ?_
  refine GL.move I0.mono (by conv => lhs; whnf) ?_
  refine GL.lenF I0.mono rfl rfl (em_len _ _) ?_
  refine GL.addR I0.mono rfl rfl (by omega) ?_
  refine GL.bin I0.mono rfl ?_
  refine GL.move I0.mono (by conv => lhs; whnf) ?_
  refine GL.splitAt 47 rfl (fun h47 => ?_) (fun h47 => ?_)
  ·rw [h47]
   replace h47 := bne_true h47
   exact absurd h47 (by omega)
  ·rw [h47]
   replace h47 := bne_false h47
   refine GL.guardT rfl ?_
   refine GL.move I0.mono (by conv => lhs; whnf) ?_
   refine GL.guardT rfl ?_
   refine GL.lenF I0.mono rfl rfl (em_len _ _) ?_
   refine GL.guardT rfl ?_
   refine GL.move I0.mono (by conv => lhs; whnf) ?_
   refine GL.guardT rfl ?_
   refine GL.lenF I0.mono rfl rfl (em_len _ _) ?_
   refine GL.guardT rfl ?_
   refine GL.addR I0.mono rfl rfl (by omega) ?_
   refine GL.guardT rfl ?_
   refine GL.bin I0.mono rfl ?_
   refine GL.pick I0.mono rfl (by conv => lhs; whnf) ?_
   refine GL.doneF ?_
   refine goOn ?_
   refine Wp.condI rfl (fun h54 => ?_) (fun h54 => ?_)
   ·replace h54 := bne_true h54
    exact absurd h54 (by omega)
   ·replace h54 := bne_false h54
    refine Wp.skipI ?_
    refine goOn ?_
    refine Wp.seqI ?_
    refine Wp.seqI ?_
    refine Wp.regI I0.mono ?_
    refine GL.move I0.mono (by conv => lhs; whnf) ?_
    refine GL.lenF I0.mono rfl rfl (em_len _ _) ?_
    refine GL.move I0.mono (by conv => lhs; whnf) ?_
    refine GL.doneF ?_
    refine goOn ?_
    refine Wp.blockI ?_
    refine Wp.loopI I0.mono (α := Nat) (fun j st => (j ≤ HL.length) ∧ ∃ m0, st = ⟨(updS (updS (updS (updS (updS (updS (updS (updS (updS (fun _ => LV.undef) 3 (.int .i64 c)) 9 (.ref 576 g9 0 0)) 10 (.sl (em ni r))) 11 (.sl (em ni s))) 12 (.sl (em nh HL))) 13 (.sl (em nl TL))) 55 (.sl (em nh HL))) 56 (.int .i64 (HL.length : Int))) 57 (.int .i64 (j : Int))), effM m0 [(576, ⟨g9, false, .var, 4, [ic I]⟩)]⟩) (fun j => HL.length - j) 0 ⟨_, (LessS.weak (LessS.upd (LessS.upd (LessS.upd (LessS.upd (LessS.upd (LessS.upd (LessS.upd (LessS.upd (LessS.upd (LessS.nil _) rfl) rfl) rfl) rfl) rfl) rfl) rfl) rfl) rfl) _), (Nat.zero_le _), _, (congrArg (St.mk _) (effM_eq (Has.cons rfl Has.nil)).symm)⟩ ?_
    rintro j _ ⟨hj, m0, rfl⟩
    refine Wp.seqI ?_
    refine Wp.regI I0.mono ?_
    refine GL.bin I0.mono rfl ?_
    refine GL.doneF ?_
    refine goOn ?_
    refine Wp.seqI ?_
    refine Wp.condI rfl (fun h58 => ?_) (fun h58 => ?_)
    ·replace h58 := of_decide_eq_true h58
     refine Wp.skipI ?_
     refine goOn ?_
     refine Wp.seqI ?_
     refine Wp.blockI ?_
     refine Wp.seqI ?_
     refine Wp.regI I0.mono ?_
     refine GL.move I0.mono (by conv => lhs; whnf) ?_
     refine GL.assign I0.mono (by conv => lhs; whnf) ?_
     refine GL.doneF ?_
     refine goOn ?_
     refine Wp.seqI ?_
     refine Wp.regI I0.mono ?_
     refine GL.move I0.mono (by conv => lhs; whnf) ?_
     refine GL.lenF I0.mono rfl rfl (em_len _ _) ?_
     refine GL.move I0.mono (by conv => lhs; whnf) ?_
     refine GL.doneF ?_
     refine goOn ?_
     refine Wp.blockI ?_
     refine Wp.loopI I0.mono (α := Nat) (fun k st => (k ≤ TL.length) ∧ ∃ m0, st = ⟨(updS (updS (updS (updS (updS (updS (updS (updS (updS (updS (updS (updS (updS (fun _ => LV.undef) 3 (.int .i64 c)) 9 (.ref 576 g9 0 0)) 10 (.sl (em ni r))) 11 (.sl (em ni s))) 12 (.sl (em nh HL))) 13 (.sl (em nl TL))) 55 (.sl (em nh HL))) 56 (.int .i64 (HL.length : Int))) 57 (.int .i64 (j : Int))) 14 (.int .i64 (j : Int))) 60 (.sl (em nl TL))) 61 (.int .i64 (TL.length : Int))) 62 (.int .i64 (k : Int))), effM m0 [(576, ⟨g9, false, .var, 4, [ic I]⟩)]⟩) (fun k => TL.length - k) 0 ⟨_, (LessS.weak (LessS.upd (LessS.upd (LessS.upd (LessS.upd (LessS.upd (LessS.upd (LessS.upd (LessS.upd (LessS.upd (LessS.upd (LessS.upd (LessS.upd (LessS.upd (LessS.nil _) rfl) rfl) rfl) rfl) rfl) rfl) rfl) rfl) rfl) rfl) rfl) rfl) rfl) _), (Nat.zero_le _), _, (congrArg (St.mk _) (effM_eq (Has.cons rfl Has.nil)).symm)⟩ ?_
     rintro k _ ⟨hk, m0, rfl⟩
     refine Wp.seqI ?_
     refine Wp.regI I0.mono ?_
     refine GL.bin I0.mono rfl ?_
     refine GL.doneF ?_
     refine goOn ?_
     refine Wp.seqI ?_
     refine Wp.condI rfl (fun h63 => ?_) (fun h63 => ?_)
     ·replace h63 := of_decide_eq_true h63
      obtain ⟨cc, bb, TT, hm, he, q1, q2⟩ := hpair j k (by omega) (by omega)
      refine Wp.skipI ?_
      refine goOn ?_
      refine Wp.seqI ?_
      refine Wp.blockI ?_
      refine Wp.seqI ?_
      refine Wp.regI I0.mono ?_
      refine GL.move I0.mono (by conv => lhs; whnf) ?_
      refine GL.assign I0.mono (by conv => lhs; whnf) ?_
      refine GL.doneF ?_
      refine goOn ?_
      refine Wp.seqI ?_
      refine Wp.regD ?_
      refine GL.loadW I0.mono (n := 4) rfl rfl rfl rfl (by simp) rfl rfl rfl ?_
      refine GL.move I0.mono (by conv => lhs; whnf) ?_
      refine GL.move I0.mono (by conv => lhs; whnf) ?_
      refine GL.move I0.mono (by conv => lhs; whnf) ?_
      refine GL.indexAddrF I0.mono (sz := 7) rfl rfl rfl rfl (by omega) (by (rw [em_len]; omega)) (by intro e he; obtain ⟨a, -, rfl⟩ := List.mem_map.1 he; rfl) (by with_reducible exact Int.toNat_natCast _) ?_
      refine GL.loadFW I0.mono (n := 7) rfl rfl (em_get (by omega)) rfl rfl ?_
      refine GL.move I0.mono (by conv => lhs; whnf) ?_
      refine GL.move I0.mono (by conv => lhs; whnf) ?_
      refine GL.indexAddrF I0.mono (sz := 8) rfl rfl rfl rfl (by omega) (by (rw [em_len]; omega)) (by intro e he; obtain ⟨a, -, rfl⟩ := List.mem_map.1 he; rfl) (by with_reducible exact Int.toNat_natCast _) ?_
      refine GL.loadFW I0.mono (n := 8) rfl rfl (em_get (by omega)) rfl rfl ?_
      refine GL.call0 I0.mono rfl (Frz.aggc (by exact Frz.pures rfl) (Frz.aggc (by exact Frz.pure rfl) (Frz.aggc (by exact Frz.pures rfl) (Frz.aggc (by exact Frz.pures rfl) (Frz.aggn))))) (hm) rfl rfl (fun _ => rfl) ?_
      refine GL.move I0.mono (by conv => lhs; whnf) ?_
      refine GL.extract I0.mono rfl rfl ?_
      refine GL.extract I0.mono rfl rfl ?_
      refine GL.assign I0.mono (by conv => lhs; whnf) ?_
      refine GL.assign I0.mono (by conv => lhs; whnf) ?_
      refine GL.doneT (by kernel_rfl) ?_
      refine goOn ?_
      refine Wp.seqI ?_
      rcases Nat.eq_zero_or_pos j with rfl | hj0
      ·skip
       rcases Nat.lt_or_ge k s.length with hk0 | hk0
       ·skip
        refine Wp.regD ?_
        refine GL.loadW I0.mono (n := 4) rfl rfl rfl rfl (by simp) rfl rfl rfl ?_
        refine GL.move I0.mono (by conv => lhs; whnf) ?_
        refine GL.move I0.mono (by conv => lhs; whnf) ?_
        refine GL.move I0.mono (by conv => lhs; whnf) ?_
        refine GL.sliceTo I0.mono (sz := 1) rfl rfl rfl rfl (by intro e he; obtain ⟨a, -, rfl⟩ := List.mem_map.1 he; rfl) (by omega) (by omega) (by with_reducible exact Int.toNat_natCast _) ?_
        refine GL.appendNil I0.mono rfl rfl rfl rfl rfl ?_
        refine GL.move I0.mono (by conv => lhs; whnf) ?_
        refine GL.move I0.mono (by conv => lhs; whnf) ?_
        refine GL.sliceFrom I0.mono (sz := 1) rfl rfl rfl rfl (by intro e he; obtain ⟨a, -, rfl⟩ := List.mem_map.1 he; rfl) (by omega) (by omega) (by with_reducible exact Int.toNat_natCast _) ?_
        refine GL.appendSl I0.mono (f := ni) (l := s.drop k) (sz := 1) (z := [.int .i64 0]) rfl rfl rfl rfl rfl (by decide) (Nat.le_of_ble_eq_true rfl) rfl rfl (fun _ => rfl) (fun _ => rfl) (by rw [List.length_drop]; omega) (by rw [List.length_drop]; omega) ?_
        intro g89
        refine GL.callMW I0.mono (W := [5696]) rfl (Frz.aggc (Frz.aggc (by exact Frz.pure rfl) (Frz.aggc (by exact Frz.pure rfl) (Frz.aggc (by exact Frz.pure rfl) (Frz.aggc (by exact Frz.pure rfl) Frz.aggn)))) (Frz.aggc (Frz.pure rfl) (Frz.aggc (Frz.whole rfl rfl rfl rfl (by rw [em_len])) Frz.aggn))) (he (s.drop k) rfl) rfl rfl rfl (fun _ => rfl) ?_
        refine GL.move I0.mono (by conv => lhs; whnf) ?_
        refine GL.extract I0.mono rfl rfl ?_
        refine GL.extract I0.mono rfl rfl ?_
        refine GL.alloc I0.mono (cs := [LV.nils, LV.nils, LV.int .i64 0, LV.int .i64 0]) rfl rfl ?_
        intro g18
        refine GL.storeW I0.mono (n := 4) rfl rfl rfl rfl rfl rfl rfl (by conv => lhs; whnf) rfl rfl rfl ?_
        refine GL.assign I0.mono (by conv => lhs; whnf) ?_
        refine GL.doneT (by kernel_rfl) ?_
        refine goOn ?_
        refine Wp.seqI ?_
        refine Wp.regI I0.mono ?_
        refine GL.move I0.mono (by conv => lhs; whnf) ?_
        refine GL.move I0.mono (by conv => lhs; whnf) ?_
        refine GL.bin I0.mono rfl ?_
        refine GL.move I0.mono (by conv => lhs; whnf) ?_
        refine GL.splitAt 96 rfl (fun h96 => ?_) (fun h96 => ?_)
        ·rw [h96]
         skip
         (simp at h96)
        ·rw [h96]
         skip
         refine GL.guardT rfl ?_
         refine GL.move I0.mono (by conv => lhs; whnf) ?_
         refine GL.guardT rfl ?_
         refine GL.move I0.mono (by conv => lhs; whnf) ?_
         refine GL.splitAt 98 rfl (fun h98 => ?_) (fun h98 => ?_)
         ·rw [h98]
          skip
          refine GL.guardT rfl ?_
          refine GL.move I0.mono (by conv => lhs; whnf) ?_
          refine GL.guardT rfl ?_
          refine GL.fieldAddr I0.mono (o := 2) rfl rfl rfl rfl (by conv => lhs; whnf) ?_
          refine GL.guardT rfl ?_
          refine GL.load I0.mono rfl rfl rfl rfl (by simp) rfl rfl ?_
          refine GL.guardT rfl ?_
          refine GL.bin I0.mono rfl ?_
          refine GL.guardT rfl ?_
          refine GL.pick I0.mono rfl (by conv => lhs; whnf) ?_
          refine GL.pick I0.mono rfl (by conv => lhs; whnf) ?_
          refine GL.move I0.mono (by conv => lhs; whnf) ?_
          refine GL.splitAt 105 rfl (fun h105 => ?_) (fun h105 => ?_)
          ·rw [h105]
           replace h105 := bne_true h105
           exact absurd (q1 h98) h105
          ·rw [h105]
           replace h105 := bne_false h105
           refine GL.guardT rfl ?_
           refine GL.move I0.mono (by conv => lhs; whnf) ?_
           refine GL.guardT rfl ?_
           refine GL.un I0.mono rfl ?_
           refine GL.guardT rfl ?_
           refine GL.move I0.mono (by conv => lhs; whnf) ?_
           refine GL.splitAt 108 rfl (fun h108 => ?_) (fun h108 => ?_)
           ·rw [h108]
            skip
            refine GL.guardT rfl ?_
            refine GL.move I0.mono (by conv => lhs; whnf) ?_
            refine GL.guardT rfl ?_
            refine GL.bin I0.mono rfl ?_
            refine GL.guardT rfl ?_
            refine GL.pick I0.mono rfl (by conv => lhs; whnf) ?_
            refine GL.pick I0.mono rfl (by conv => lhs; whnf) ?_
            refine GL.doneF ?_
            refine goOn ?_
            refine Wp.condI rfl (fun h112 => ?_) (fun h112 => ?_)
            ·replace h112 := bne_true h112
             cases h108
            ·replace h112 := bne_false h112
             refine Wp.skipI ?_
             refine blockX.normal ?_
             refine goOn ?_
             refine Wp.regI I0.mono ?_
             refine GL.addR I0.mono rfl rfl (by omega) ?_
             refine GL.move I0.mono (by conv => lhs; whnf) ?_
             refine GL.doneF ?_
             refine ⟨k + 1, (by dsimp only; omega), _, (LessS.weak (LessS.upd (LessS.upd (LessS.upd (LessS.upd (LessS.upd (LessS.upd (LessS.upd (LessS.upd (LessS.upd (LessS.upd (LessS.upd (LessS.upd (LessS.upd (LessS.nil _) rfl) rfl) rfl) rfl) rfl) rfl) rfl) rfl) rfl) rfl) rfl) rfl) rfl) _), (by omega), _, (congrArg (St.mk _) (effM_eq (Has.cons rfl Has.nil)).symm)⟩
           ·rw [h108]
            skip
            refine GL.guardF rfl ?_
            refine GL.guardF rfl ?_
            refine GL.guardT rfl ?_
            refine GL.pick I0.mono rfl (by conv => lhs; whnf) ?_
            refine GL.pick I0.mono rfl (by conv => lhs; whnf) ?_
            refine GL.doneF ?_
            refine goOn ?_
            refine Wp.condF rfl ?_
            refine Wp.skipI ?_
            refine blockX.normal ?_
            refine goOn ?_
            refine Wp.regI I0.mono ?_
            refine GL.addR I0.mono rfl rfl (by omega) ?_
            refine GL.move I0.mono (by conv => lhs; whnf) ?_
            refine GL.doneF ?_
            refine ⟨k + 1, (by dsimp only; omega), _, (LessS.weak (LessS.upd (LessS.upd (LessS.upd (LessS.upd (LessS.upd (LessS.upd (LessS.upd (LessS.upd (LessS.upd (LessS.upd (LessS.upd (LessS.upd (LessS.upd (LessS.nil _) rfl) rfl) rfl) rfl) rfl) rfl) rfl) rfl) rfl) rfl) rfl) rfl) rfl) _), (by omega), _, (congrArg (St.mk _) (effM_eq (Has.cons rfl Has.nil)).symm)⟩
         ·rw [h98]
          skip
          refine GL.guardF rfl ?_
          refine GL.guardF rfl ?_
          refine GL.guardF rfl ?_
          refine GL.guardF rfl ?_
          refine GL.guardT rfl ?_
          refine GL.pick I0.mono rfl (by conv => lhs; whnf) ?_
          refine GL.pick I0.mono rfl (by conv => lhs; whnf) ?_
          refine GL.move I0.mono (by conv => lhs; whnf) ?_
          refine GL.guardT rfl ?_
          refine GL.move I0.mono (by conv => lhs; whnf) ?_
          refine GL.guardT rfl ?_
          refine GL.un I0.mono rfl ?_
          refine GL.guardT rfl ?_
          refine GL.move I0.mono (by conv => lhs; whnf) ?_
          refine GL.splitAt 108 rfl (fun h108 => ?_) (fun h108 => ?_)
          ·rw [h108]
           skip
           refine GL.guardT rfl ?_
           refine GL.move I0.mono (by conv => lhs; whnf) ?_
           refine GL.guardT rfl ?_
           refine GL.bin I0.mono rfl ?_
           refine GL.guardT rfl ?_
           refine GL.pick I0.mono rfl (by conv => lhs; whnf) ?_
           refine GL.pick I0.mono rfl (by conv => lhs; whnf) ?_
           refine GL.doneF ?_
           refine goOn ?_
           refine Wp.condI rfl (fun h112 => ?_) (fun h112 => ?_)
           ·replace h112 := bne_true h112
            exact absurd (q2 h98) h112
           ·replace h112 := bne_false h112
            refine Wp.skipI ?_
            refine blockX.normal ?_
            refine goOn ?_
            refine Wp.regI I0.mono ?_
            refine GL.addR I0.mono rfl rfl (by omega) ?_
            refine GL.move I0.mono (by conv => lhs; whnf) ?_
            refine GL.doneF ?_
            refine ⟨k + 1, (by dsimp only; omega), _, (LessS.weak (LessS.upd (LessS.upd (LessS.upd (LessS.upd (LessS.upd (LessS.upd (LessS.upd (LessS.upd (LessS.upd (LessS.upd (LessS.upd (LessS.upd (LessS.upd (LessS.nil _) rfl) rfl) rfl) rfl) rfl) rfl) rfl) rfl) rfl) rfl) rfl) rfl) rfl) _), (by omega), _, (congrArg (St.mk _) (effM_eq (Has.cons rfl Has.nil)).symm)⟩
          ·rw [h108]
           skip
           refine GL.guardF rfl ?_
           refine GL.guardF rfl ?_
           refine GL.guardT rfl ?_
           refine GL.pick I0.mono rfl (by conv => lhs; whnf) ?_
           refine GL.pick I0.mono rfl (by conv => lhs; whnf) ?_
           refine GL.doneF ?_
           refine goOn ?_
           refine Wp.condF rfl ?_
           refine Wp.skipI ?_
           refine blockX.normal ?_
           refine goOn ?_
           refine Wp.regI I0.mono ?_
           refine GL.addR I0.mono rfl rfl (by omega) ?_
           refine GL.move I0.mono (by conv => lhs; whnf) ?_
           refine GL.doneF ?_
           refine ⟨k + 1, (by dsimp only; omega), _, (LessS.weak (LessS.upd (LessS.upd (LessS.upd (LessS.upd (LessS.upd (LessS.upd (LessS.upd (LessS.upd (LessS.upd (LessS.upd (LessS.upd (LessS.upd (LessS.upd (LessS.nil _) rfl) rfl) rfl) rfl) rfl) rfl) rfl) rfl) rfl) rfl) rfl) rfl) rfl) _), (by omega), _, (congrArg (St.mk _) (effM_eq (Has.cons rfl Has.nil)).symm)⟩
       ·skip
        refine Wp.regD ?_
        refine GL.loadW I0.mono (n := 4) rfl rfl rfl rfl (by simp) rfl rfl rfl ?_
        refine GL.move I0.mono (by conv => lhs; whnf) ?_
        refine GL.move I0.mono (by conv => lhs; whnf) ?_
        refine GL.move I0.mono (by conv => lhs; whnf) ?_
        refine GL.sliceTo I0.mono (sz := 1) rfl rfl rfl rfl (by intro e he; obtain ⟨a, -, rfl⟩ := List.mem_map.1 he; rfl) (by omega) (by omega) (by with_reducible exact Int.toNat_natCast _) ?_
        refine GL.appendNil I0.mono rfl rfl rfl rfl rfl ?_
        refine GL.move I0.mono (by conv => lhs; whnf) ?_
        refine GL.move I0.mono (by conv => lhs; whnf) ?_
        refine GL.sliceFrom I0.mono (sz := 1) rfl rfl rfl rfl (by intro e he; obtain ⟨a, -, rfl⟩ := List.mem_map.1 he; rfl) (by omega) (by omega) (by with_reducible exact Int.toNat_natCast _) ?_
        refine GL.appendNil I0.mono rfl rfl rfl rfl (show LV.sl (em ni (s.drop k)) = .sl [] by rw [List.drop_of_length_le (by omega)]; rfl) ?_
        refine GL.call0 I0.mono rfl (Frz.aggc (Frz.aggc (by exact Frz.pure rfl) (Frz.aggc (by exact Frz.pure rfl) (Frz.aggc (by exact Frz.pure rfl) (Frz.aggc (by exact Frz.pure rfl) Frz.aggn)))) (Frz.aggc (Frz.pure rfl) (Frz.aggc Frz.nils Frz.aggn))) (he [] (by rw [List.drop_of_length_le (by omega)]; rfl)) rfl rfl (fun _ => rfl) ?_
        refine GL.move I0.mono (by conv => lhs; whnf) ?_
        refine GL.extract I0.mono rfl rfl ?_
        refine GL.extract I0.mono rfl rfl ?_
        refine GL.alloc I0.mono (cs := [LV.nils, LV.nils, LV.int .i64 0, LV.int .i64 0]) rfl rfl ?_
        intro g18
        refine GL.storeW I0.mono (n := 4) rfl rfl rfl rfl rfl rfl rfl (by conv => lhs; whnf) rfl rfl rfl ?_
        refine GL.assign I0.mono (by conv => lhs; whnf) ?_
        refine GL.doneT (by kernel_rfl) ?_
        refine goOn ?_
        refine Wp.seqI ?_
        refine Wp.regI I0.mono ?_
        refine GL.move I0.mono (by conv => lhs; whnf) ?_
        refine GL.move I0.mono (by conv => lhs; whnf) ?_
        refine GL.bin I0.mono rfl ?_
        refine GL.move I0.mono (by conv => lhs; whnf) ?_
        refine GL.splitAt 96 rfl (fun h96 => ?_) (fun h96 => ?_)
        ·rw [h96]
         skip
         (simp at h96)
        ·rw [h96]
         skip
         refine GL.guardT rfl ?_
         refine GL.move I0.mono (by conv => lhs; whnf) ?_
         refine GL.guardT rfl ?_
         refine GL.move I0.mono (by conv => lhs; whnf) ?_
         refine GL.splitAt 98 rfl (fun h98 => ?_) (fun h98 => ?_)
         ·rw [h98]
          skip
          refine GL.guardT rfl ?_
          refine GL.move I0.mono (by conv => lhs; whnf) ?_
          refine GL.guardT rfl ?_
          refine GL.fieldAddr I0.mono (o := 2) rfl rfl rfl rfl (by conv => lhs; whnf) ?_
          refine GL.guardT rfl ?_
          refine GL.load I0.mono rfl rfl rfl rfl (by simp) rfl rfl ?_
          refine GL.guardT rfl ?_
          refine GL.bin I0.mono rfl ?_
          refine GL.guardT rfl ?_
          refine GL.pick I0.mono rfl (by conv => lhs; whnf) ?_
          refine GL.pick I0.mono rfl (by conv => lhs; whnf) ?_
          refine GL.move I0.mono (by conv => lhs; whnf) ?_
          refine GL.splitAt 105 rfl (fun h105 => ?_) (fun h105 => ?_)
          ·rw [h105]
           replace h105 := bne_true h105
           exact absurd (q1 h98) h105
          ·rw [h105]
           replace h105 := bne_false h105
           refine GL.guardT rfl ?_
           refine GL.move I0.mono (by conv => lhs; whnf) ?_
           refine GL.guardT rfl ?_
           refine GL.un I0.mono rfl ?_
           refine GL.guardT rfl ?_
           refine GL.move I0.mono (by conv => lhs; whnf) ?_
           refine GL.splitAt 108 rfl (fun h108 => ?_) (fun h108 => ?_)
           ·rw [h108]
            skip
            refine GL.guardT rfl ?_
            refine GL.move I0.mono (by conv => lhs; whnf) ?_
            refine GL.guardT rfl ?_
            refine GL.bin I0.mono rfl ?_
            refine GL.guardT rfl ?_
            refine GL.pick I0.mono rfl (by conv => lhs; whnf) ?_
            refine GL.pick I0.mono rfl (by conv => lhs; whnf) ?_
            refine GL.doneF ?_
            refine goOn ?_
            refine Wp.condI rfl (fun h112 => ?_) (fun h112 => ?_)
            ·replace h112 := bne_true h112
             cases h108
            ·replace h112 := bne_false h112
             refine Wp.skipI ?_
             refine blockX.normal ?_
             refine goOn ?_
             refine Wp.regI I0.mono ?_
             refine GL.addR I0.mono rfl rfl (by omega) ?_
             refine GL.move I0.mono (by conv => lhs; whnf) ?_
             refine GL.doneF ?_
             refine ⟨k + 1, (by dsimp only; omega), _, (LessS.weak (LessS.upd (LessS.upd (LessS.upd (LessS.upd (LessS.upd (LessS.upd (LessS.upd (LessS.upd (LessS.upd (LessS.upd (LessS.upd (LessS.upd (LessS.upd (LessS.nil _) rfl) rfl) rfl) rfl) rfl) rfl) rfl) rfl) rfl) rfl) rfl) rfl) rfl) _), (by omega), _, (congrArg (St.mk _) (effM_eq (Has.cons rfl Has.nil)).symm)⟩
           ·rw [h108]
            skip
            refine GL.guardF rfl ?_
            refine GL.guardF rfl ?_
            refine GL.guardT rfl ?_
            refine GL.pick I0.mono rfl (by conv => lhs; whnf) ?_
            refine GL.pick I0.mono rfl (by conv => lhs; whnf) ?_
            refine GL.doneF ?_
            refine goOn ?_
            refine Wp.condF rfl ?_
            refine Wp.skipI ?_
            refine blockX.normal ?_
            refine goOn ?_
            refine Wp.regI I0.mono ?_
            refine GL.addR I0.mono rfl rfl (by omega) ?_
            refine GL.move I0.mono (by conv => lhs; whnf) ?_
            refine GL.doneF ?_
            refine ⟨k + 1, (by dsimp only; omega), _, (LessS.weak (LessS.upd (LessS.upd (LessS.upd (LessS.upd (LessS.upd (LessS.upd (LessS.upd (LessS.upd (LessS.upd (LessS.upd (LessS.upd (LessS.upd (LessS.upd (LessS.nil _) rfl) rfl) rfl) rfl) rfl) rfl) rfl) rfl) rfl) rfl) rfl) rfl) rfl) _), (by omega), _, (congrArg (St.mk _) (effM_eq (Has.cons rfl Has.nil)).symm)⟩
         ·rw [h98]
          skip
          refine GL.guardF rfl ?_
          refine GL.guardF rfl ?_
          refine GL.guardF rfl ?_
          refine GL.guardF rfl ?_
          refine GL.guardT rfl ?_
          refine GL.pick I0.mono rfl (by conv => lhs; whnf) ?_
          refine GL.pick I0.mono rfl (by conv => lhs; whnf) ?_
          refine GL.move I0.mono (by conv => lhs; whnf) ?_
          refine GL.guardT rfl ?_
          refine GL.move I0.mono (by conv => lhs; whnf) ?_
          refine GL.guardT rfl ?_
          refine GL.un I0.mono rfl ?_
          refine GL.guardT rfl ?_
          refine GL.move I0.mono (by conv => lhs; whnf) ?_
          refine GL.splitAt 108 rfl (fun h108 => ?_) (fun h108 => ?_)
          ·rw [h108]
           skip
           refine GL.guardT rfl ?_
           refine GL.move I0.mono (by conv => lhs; whnf) ?_
           refine GL.guardT rfl ?_
           refine GL.bin I0.mono rfl ?_
           refine GL.guardT rfl ?_
           refine GL.pick I0.mono rfl (by conv => lhs; whnf) ?_
           refine GL.pick I0.mono rfl (by conv => lhs; whnf) ?_
           refine GL.doneF ?_
           refine goOn ?_
           refine Wp.condI rfl (fun h112 => ?_) (fun h112 => ?_)
           ·replace h112 := bne_true h112
            exact absurd (q2 h98) h112
           ·replace h112 := bne_false h112
            refine Wp.skipI ?_
            refine blockX.normal ?_
            refine goOn ?_
            refine Wp.regI I0.mono ?_
            refine GL.addR I0.mono rfl rfl (by omega) ?_
            refine GL.move I0.mono (by conv => lhs; whnf) ?_
            refine GL.doneF ?_
            refine ⟨k + 1, (by dsimp only; omega), _, (LessS.weak (LessS.upd (LessS.upd (LessS.upd (LessS.upd (LessS.upd (LessS.upd (LessS.upd (LessS.upd (LessS.upd (LessS.upd (LessS.upd (LessS.upd (LessS.upd (LessS.nil _) rfl) rfl) rfl) rfl) rfl) rfl) rfl) rfl) rfl) rfl) rfl) rfl) rfl) _), (by omega), _, (congrArg (St.mk _) (effM_eq (Has.cons rfl Has.nil)).symm)⟩
          ·rw [h108]
           skip
           refine GL.guardF rfl ?_
           refine GL.guardF rfl ?_
           refine GL.guardT rfl ?_
           refine GL.pick I0.mono rfl (by conv => lhs; whnf) ?_
           refine GL.pick I0.mono rfl (by conv => lhs; whnf) ?_
           refine GL.doneF ?_
           refine goOn ?_
           refine Wp.condF rfl ?_
           refine Wp.skipI ?_
           refine blockX.normal ?_
           refine goOn ?_
           refine Wp.regI I0.mono ?_
           refine GL.addR I0.mono rfl rfl (by omega) ?_
           refine GL.move I0.mono (by conv => lhs; whnf) ?_
           refine GL.doneF ?_
           refine ⟨k + 1, (by dsimp only; omega), _, (LessS.weak (LessS.upd (LessS.upd (LessS.upd (LessS.upd (LessS.upd (LessS.upd (LessS.upd (LessS.upd (LessS.upd (LessS.upd (LessS.upd (LessS.upd (LessS.upd (LessS.nil _) rfl) rfl) rfl) rfl) rfl) rfl) rfl) rfl) rfl) rfl) rfl) rfl) rfl) _), (by omega), _, (congrArg (St.mk _) (effM_eq (Has.cons rfl Has.nil)).symm)⟩
      ·skip
       rcases Nat.lt_or_ge k s.length with hk0 | hk0
       ·skip
        refine Wp.regD ?_
        refine GL.loadW I0.mono (n := 4) rfl rfl rfl rfl (by simp) rfl rfl rfl ?_
        refine GL.move I0.mono (by conv => lhs; whnf) ?_
        refine GL.move I0.mono (by conv => lhs; whnf) ?_
        refine GL.move I0.mono (by conv => lhs; whnf) ?_
        refine GL.sliceTo I0.mono (sz := 1) rfl rfl rfl rfl (by intro e he; obtain ⟨a, -, rfl⟩ := List.mem_map.1 he; rfl) (by omega) (by omega) (by with_reducible exact Int.toNat_natCast _) ?_
        refine GL.appendSl I0.mono (f := ni) (l := r.take j) (sz := 1) (z := [.int .i64 0]) rfl rfl rfl rfl rfl (by decide) (Nat.le_of_ble_eq_true rfl) rfl rfl (fun _ => rfl) (fun _ => rfl) (by rw [List.length_take]; omega) (by rw [List.length_take]; omega) ?_
        intro g85
        refine GL.move I0.mono (by conv => lhs; whnf) ?_
        refine GL.move I0.mono (by conv => lhs; whnf) ?_
        refine GL.sliceFrom I0.mono (sz := 1) rfl rfl rfl rfl (by intro e he; obtain ⟨a, -, rfl⟩ := List.mem_map.1 he; rfl) (by omega) (by omega) (by with_reducible exact Int.toNat_natCast _) ?_
        refine GL.appendO I0.mono (f := ni) (l := r.take j) (l2 := s.drop k) (n2 := (s.drop k).length) (sz := 1) (z := [.int .i64 0]) rfl rfl rfl rfl rfl (by decide) (Nat.le_of_ble_eq_true rfl) rfl rfl rfl rfl rfl rfl rfl rfl rfl (fun _ => rfl) (fun _ => rfl) rfl (by rw [List.length_drop]; omega) (by rw [List.length_take, List.length_drop]; omega) ?_
        refine GL.callMW I0.mono (W := [5440]) rfl (Frz.aggc (Frz.aggc (by exact Frz.pure rfl) (Frz.aggc (by exact Frz.pure rfl) (Frz.aggc (by exact Frz.pure rfl) (Frz.aggc (by exact Frz.pure rfl) Frz.aggn)))) (Frz.aggc (Frz.pure rfl) (Frz.aggc (Frz.whole rfl rfl rfl rfl (by rw [em_len, List.length_append])) Frz.aggn))) (he (r.take j ++ s.drop k) rfl) rfl rfl rfl (fun _ => rfl) ?_
        refine GL.move I0.mono (by conv => lhs; whnf) ?_
        refine GL.extract I0.mono rfl rfl ?_
        refine GL.extract I0.mono rfl rfl ?_
        refine GL.alloc I0.mono (cs := [LV.nils, LV.nils, LV.int .i64 0, LV.int .i64 0]) rfl rfl ?_
        intro g18
        refine GL.storeW I0.mono (n := 4) rfl rfl rfl rfl rfl rfl rfl (by conv => lhs; whnf) rfl rfl rfl ?_
        refine GL.assign I0.mono (by conv => lhs; whnf) ?_
        refine GL.doneT (by kernel_rfl) ?_
        refine goOn ?_
        refine Wp.seqI ?_
        refine Wp.regI I0.mono ?_
        refine GL.move I0.mono (by conv => lhs; whnf) ?_
        refine GL.move I0.mono (by conv => lhs; whnf) ?_
        refine GL.bin I0.mono rfl ?_
        refine GL.move I0.mono (by conv => lhs; whnf) ?_
        refine GL.splitAt 96 rfl (fun h96 => ?_) (fun h96 => ?_)
        ·rw [h96]
         skip
         (simp at h96)
        ·rw [h96]
         skip
         refine GL.guardT rfl ?_
         refine GL.move I0.mono (by conv => lhs; whnf) ?_
         refine GL.guardT rfl ?_
         refine GL.move I0.mono (by conv => lhs; whnf) ?_
         refine GL.splitAt 98 rfl (fun h98 => ?_) (fun h98 => ?_)
         ·rw [h98]
          skip
          refine GL.guardT rfl ?_
          refine GL.move I0.mono (by conv => lhs; whnf) ?_
          refine GL.guardT rfl ?_
          refine GL.fieldAddr I0.mono (o := 2) rfl rfl rfl rfl (by conv => lhs; whnf) ?_
          refine GL.guardT rfl ?_
          refine GL.load I0.mono rfl rfl rfl rfl (by simp) rfl rfl ?_
          refine GL.guardT rfl ?_
          refine GL.bin I0.mono rfl ?_
          refine GL.guardT rfl ?_
          refine GL.pick I0.mono rfl (by conv => lhs; whnf) ?_
          refine GL.pick I0.mono rfl (by conv => lhs; whnf) ?_
          refine GL.move I0.mono (by conv => lhs; whnf) ?_
          refine GL.splitAt 105 rfl (fun h105 => ?_) (fun h105 => ?_)
          ·rw [h105]
           replace h105 := bne_true h105
           exact absurd (q1 h98) h105
          ·rw [h105]
           replace h105 := bne_false h105
           refine GL.guardT rfl ?_
           refine GL.move I0.mono (by conv => lhs; whnf) ?_
           refine GL.guardT rfl ?_
           refine GL.un I0.mono rfl ?_
           refine GL.guardT rfl ?_
           refine GL.move I0.mono (by conv => lhs; whnf) ?_
           refine GL.splitAt 108 rfl (fun h108 => ?_) (fun h108 => ?_)
           ·rw [h108]
            skip
            refine GL.guardT rfl ?_
            refine GL.move I0.mono (by conv => lhs; whnf) ?_
            refine GL.guardT rfl ?_
            refine GL.bin I0.mono rfl ?_
            refine GL.guardT rfl ?_
            refine GL.pick I0.mono rfl (by conv => lhs; whnf) ?_
            refine GL.pick I0.mono rfl (by conv => lhs; whnf) ?_
            refine GL.doneF ?_
            refine goOn ?_
            refine Wp.condI rfl (fun h112 => ?_) (fun h112 => ?_)
            ·replace h112 := bne_true h112
             cases h108
            ·replace h112 := bne_false h112
             refine Wp.skipI ?_
             refine blockX.normal ?_
             refine goOn ?_
             refine Wp.regI I0.mono ?_
             refine GL.addR I0.mono rfl rfl (by omega) ?_
             refine GL.move I0.mono (by conv => lhs; whnf) ?_
             refine GL.doneF ?_
             refine ⟨k + 1, (by dsimp only; omega), _, (LessS.weak (LessS.upd (LessS.upd (LessS.upd (LessS.upd (LessS.upd (LessS.upd (LessS.upd (LessS.upd (LessS.upd (LessS.upd (LessS.upd (LessS.upd (LessS.upd (LessS.nil _) rfl) rfl) rfl) rfl) rfl) rfl) rfl) rfl) rfl) rfl) rfl) rfl) rfl) _), (by omega), _, (congrArg (St.mk _) (effM_eq (Has.cons rfl Has.nil)).symm)⟩
           ·rw [h108]
            skip
            refine GL.guardF rfl ?_
            refine GL.guardF rfl ?_
            refine GL.guardT rfl ?_
            refine GL.pick I0.mono rfl (by conv => lhs; whnf) ?_
            refine GL.pick I0.mono rfl (by conv => lhs; whnf) ?_
            refine GL.doneF ?_
            refine goOn ?_
            refine Wp.condF rfl ?_
            refine Wp.skipI ?_
            refine blockX.normal ?_
            refine goOn ?_
            refine Wp.regI I0.mono ?_
            refine GL.addR I0.mono rfl rfl (by omega) ?_
            refine GL.move I0.mono (by conv => lhs; whnf) ?_
            refine GL.doneF ?_
            refine ⟨k + 1, (by dsimp only; omega), _, (LessS.weak (LessS.upd (LessS.upd (LessS.upd (LessS.upd (LessS.upd (LessS.upd (LessS.upd (LessS.upd (LessS.upd (LessS.upd (LessS.upd (LessS.upd (LessS.upd (LessS.nil _) rfl) rfl) rfl) rfl) rfl) rfl) rfl) rfl) rfl) rfl) rfl) rfl) rfl) _), (by omega), _, (congrArg (St.mk _) (effM_eq (Has.cons rfl Has.nil)).symm)⟩
         ·rw [h98]
          skip
          refine GL.guardF rfl ?_
          refine GL.guardF rfl ?_
          refine GL.guardF rfl ?_
          refine GL.guardF rfl ?_
          refine GL.guardT rfl ?_
          refine GL.pick I0.mono rfl (by conv => lhs; whnf) ?_
          refine GL.pick I0.mono rfl (by conv => lhs; whnf) ?_
          refine GL.move I0.mono (by conv => lhs; whnf) ?_
          refine GL.guardT rfl ?_
          refine GL.move I0.mono (by conv => lhs; whnf) ?_
          refine GL.guardT rfl ?_
          refine GL.un I0.mono rfl ?_
          refine GL.guardT rfl ?_
          refine GL.move I0.mono (by conv => lhs; whnf) ?_
          refine GL.splitAt 108 rfl (fun h108 => ?_) (fun h108 => ?_)
          ·rw [h108]
           skip
           refine GL.guardT rfl ?_
           refine GL.move I0.mono (by conv => lhs; whnf) ?_
           refine GL.guardT rfl ?_
           refine GL.bin I0.mono rfl ?_
           refine GL.guardT rfl ?_
           refine GL.pick I0.mono rfl (by conv => lhs; whnf) ?_
           refine GL.pick I0.mono rfl (by conv => lhs; whnf) ?_
           refine GL.doneF ?_
           refine goOn ?_
           refine Wp.condI rfl (fun h112 => ?_) (fun h112 => ?_)
           ·replace h112 := bne_true h112
            exact absurd (q2 h98) h112
           ·replace h112 := bne_false h112
            refine Wp.skipI ?_
            refine blockX.normal ?_
            refine goOn ?_
            refine Wp.regI I0.mono ?_
            refine GL.addR I0.mono rfl rfl (by omega) ?_
            refine GL.move I0.mono (by conv => lhs; whnf) ?_
            refine GL.doneF ?_
            refine ⟨k + 1, (by dsimp only; omega), _, (LessS.weak (LessS.upd (LessS.upd (LessS.upd (LessS.upd (LessS.upd (LessS.upd (LessS.upd (LessS.upd (LessS.upd (LessS.upd (LessS.upd (LessS.upd (LessS.upd (LessS.nil _) rfl) rfl) rfl) rfl) rfl) rfl) rfl) rfl) rfl) rfl) rfl) rfl) rfl) _), (by omega), _, (congrArg (St.mk _) (effM_eq (Has.cons rfl Has.nil)).symm)⟩
          ·rw [h108]
           skip
           refine GL.guardF rfl ?_
           refine GL.guardF rfl ?_
           refine GL.guardT rfl ?_
           refine GL.pick I0.mono rfl (by conv => lhs; whnf) ?_
           refine GL.pick I0.mono rfl (by conv => lhs; whnf) ?_
           refine GL.doneF ?_
           refine goOn ?_
           refine Wp.condF rfl ?_
           refine Wp.skipI ?_
           refine blockX.normal ?_
           refine goOn ?_
           refine Wp.regI I0.mono ?_
           refine GL.addR I0.mono rfl rfl (by omega) ?_
           refine GL.move I0.mono (by conv => lhs; whnf) ?_
           refine GL.doneF ?_
           refine ⟨k + 1, (by dsimp only; omega), _, (LessS.weak (LessS.upd (LessS.upd (LessS.upd (LessS.upd (LessS.upd (LessS.upd (LessS.upd (LessS.upd (LessS.upd (LessS.upd (LessS.upd (LessS.upd (LessS.upd (LessS.nil _) rfl) rfl) rfl) rfl) rfl) rfl) rfl) rfl) rfl) rfl) rfl) rfl) rfl) _), (by omega), _, (congrArg (St.mk _) (effM_eq (Has.cons rfl Has.nil)).symm)⟩
       ·skip
        refine Wp.regD ?_
        refine GL.loadW I0.mono (n := 4) rfl rfl rfl rfl (by simp) rfl rfl rfl ?_
        refine GL.move I0.mono (by conv => lhs; whnf) ?_
        refine GL.move I0.mono (by conv => lhs; whnf) ?_
        refine GL.move I0.mono (by conv => lhs; whnf) ?_
        refine GL.sliceTo I0.mono (sz := 1) rfl rfl rfl rfl (by intro e he; obtain ⟨a, -, rfl⟩ := List.mem_map.1 he; rfl) (by omega) (by omega) (by with_reducible exact Int.toNat_natCast _) ?_
        refine GL.appendSl I0.mono (f := ni) (l := r.take j) (sz := 1) (z := [.int .i64 0]) rfl rfl rfl rfl rfl (by decide) (Nat.le_of_ble_eq_true rfl) rfl rfl (fun _ => rfl) (fun _ => rfl) (by rw [List.length_take]; omega) (by rw [List.length_take]; omega) ?_
        intro g85
        refine GL.move I0.mono (by conv => lhs; whnf) ?_
        refine GL.move I0.mono (by conv => lhs; whnf) ?_
        refine GL.sliceFrom I0.mono (sz := 1) rfl rfl rfl rfl (by intro e he; obtain ⟨a, -, rfl⟩ := List.mem_map.1 he; rfl) (by omega) (by omega) (by with_reducible exact Int.toNat_natCast _) ?_
        refine GL.appendE I0.mono rfl rfl rfl rfl rfl rfl (show LV.sl (em ni (s.drop k)) = .sl [] by rw [List.drop_of_length_le (by omega)]; rfl) ?_
        refine GL.callMW I0.mono (W := [5440]) rfl (Frz.aggc (Frz.aggc (by exact Frz.pure rfl) (Frz.aggc (by exact Frz.pure rfl) (Frz.aggc (by exact Frz.pure rfl) (Frz.aggc (by exact Frz.pure rfl) Frz.aggn)))) (Frz.aggc (Frz.pure rfl) (Frz.aggc (Frz.whole rfl rfl rfl rfl (by rw [em_len])) Frz.aggn))) (he (r.take j) (by rw [List.drop_of_length_le (by omega), List.append_nil])) rfl rfl rfl (fun _ => rfl) ?_
        refine GL.move I0.mono (by conv => lhs; whnf) ?_
        refine GL.extract I0.mono rfl rfl ?_
        refine GL.extract I0.mono rfl rfl ?_
        refine GL.alloc I0.mono (cs := [LV.nils, LV.nils, LV.int .i64 0, LV.int .i64 0]) rfl rfl ?_
        intro g18
        refine GL.storeW I0.mono (n := 4) rfl rfl rfl rfl rfl rfl rfl (by conv => lhs; whnf) rfl rfl rfl ?_
        refine GL.assign I0.mono (by conv => lhs; whnf) ?_
        refine GL.doneT (by kernel_rfl) ?_
        refine goOn ?_
        refine Wp.seqI ?_
        refine Wp.regI I0.mono ?_
        refine GL.move I0.mono (by conv => lhs; whnf) ?_
        refine GL.move I0.mono (by conv => lhs; whnf) ?_
        refine GL.bin I0.mono rfl ?_
        refine GL.move I0.mono (by conv => lhs; whnf) ?_
        refine GL.splitAt 96 rfl (fun h96 => ?_) (fun h96 => ?_)
        ·rw [h96]
         skip
         (simp at h96)
        ·rw [h96]
         skip
         refine GL.guardT rfl ?_
         refine GL.move I0.mono (by conv => lhs; whnf) ?_
         refine GL.guardT rfl ?_
         refine GL.move I0.mono (by conv => lhs; whnf) ?_
         refine GL.splitAt 98 rfl (fun h98 => ?_) (fun h98 => ?_)
         ·rw [h98]
          skip
          refine GL.guardT rfl ?_
          refine GL.move I0.mono (by conv => lhs; whnf) ?_
          refine GL.guardT rfl ?_
          refine GL.fieldAddr I0.mono (o := 2) rfl rfl rfl rfl (by conv => lhs; whnf) ?_
          refine GL.guardT rfl ?_
          refine GL.load I0.mono rfl rfl rfl rfl (by simp) rfl rfl ?_
          refine GL.guardT rfl ?_
          refine GL.bin I0.mono rfl ?_
          refine GL.guardT rfl ?_
          refine GL.pick I0.mono rfl (by conv => lhs; whnf) ?_
          refine GL.pick I0.mono rfl (by conv => lhs; whnf) ?_
          refine GL.move I0.mono (by conv => lhs; whnf) ?_
          refine GL.splitAt 105 rfl (fun h105 => ?_) (fun h105 => ?_)
          ·rw [h105]
           replace h105 := bne_true h105
           exact absurd (q1 h98) h105
          ·rw [h105]
           replace h105 := bne_false h105
           refine GL.guardT rfl ?_
           refine GL.move I0.mono (by conv => lhs; whnf) ?_
           refine GL.guardT rfl ?_
           refine GL.un I0.mono rfl ?_
           refine GL.guardT rfl ?_
           refine GL.move I0.mono (by conv => lhs; whnf) ?_
           refine GL.splitAt 108 rfl (fun h108 => ?_) (fun h108 => ?_)
           ·rw [h108]
            skip
            refine GL.guardT rfl ?_
            refine GL.move I0.mono (by conv => lhs; whnf) ?_
            refine GL.guardT rfl ?_
            refine GL.bin I0.mono rfl ?_
            refine GL.guardT rfl ?_
            refine GL.pick I0.mono rfl (by conv => lhs; whnf) ?_
            refine GL.pick I0.mono rfl (by conv => lhs; whnf) ?_
            refine GL.doneF ?_
            refine goOn ?_
            refine Wp.condI rfl (fun h112 => ?_) (fun h112 => ?_)
            ·replace h112 := bne_true h112
             cases h108
            ·replace h112 := bne_false h112
             refine Wp.skipI ?_
             refine blockX.normal ?_
             refine goOn ?_
             refine Wp.regI I0.mono ?_
             refine GL.addR I0.mono rfl rfl (by omega) ?_
             refine GL.move I0.mono (by conv => lhs; whnf) ?_
             refine GL.doneF ?_
             refine ⟨k + 1, (by dsimp only; omega), _, (LessS.weak (LessS.upd (LessS.upd (LessS.upd (LessS.upd (LessS.upd (LessS.upd (LessS.upd (LessS.upd (LessS.upd (LessS.upd (LessS.upd (LessS.upd (LessS.upd (LessS.nil _) rfl) rfl) rfl) rfl) rfl) rfl) rfl) rfl) rfl) rfl) rfl) rfl) rfl) _), (by omega), _, (congrArg (St.mk _) (effM_eq (Has.cons rfl Has.nil)).symm)⟩
           ·rw [h108]
            skip
            refine GL.guardF rfl ?_
            refine GL.guardF rfl ?_
            refine GL.guardT rfl ?_
            refine GL.pick I0.mono rfl (by conv => lhs; whnf) ?_
            refine GL.pick I0.mono rfl (by conv => lhs; whnf) ?_
            refine GL.doneF ?_
            refine goOn ?_
            refine Wp.condF rfl ?_
            refine Wp.skipI ?_
            refine blockX.normal ?_
            refine goOn ?_
            refine Wp.regI I0.mono ?_
            refine GL.addR I0.mono rfl rfl (by omega) ?_
            refine GL.move I0.mono (by conv => lhs; whnf) ?_
            refine GL.doneF ?_
            refine ⟨k + 1, (by dsimp only; omega), _, (LessS.weak (LessS.upd (LessS.upd (LessS.upd (LessS.upd (LessS.upd (LessS.upd (LessS.upd (LessS.upd (LessS.upd (LessS.upd (LessS.upd (LessS.upd (LessS.upd (LessS.nil _) rfl) rfl) rfl) rfl) rfl) rfl) rfl) rfl) rfl) rfl) rfl) rfl) rfl) _), (by omega), _, (congrArg (St.mk _) (effM_eq (Has.cons rfl Has.nil)).symm)⟩
         ·rw [h98]
          skip
          refine GL.guardF rfl ?_
          refine GL.guardF rfl ?_
          refine GL.guardF rfl ?_
          refine GL.guardF rfl ?_
          refine GL.guardT rfl ?_
          refine GL.pick I0.mono rfl (by conv => lhs; whnf) ?_
          refine GL.pick I0.mono rfl (by conv => lhs; whnf) ?_
          refine GL.move I0.mono (by conv => lhs; whnf) ?_
          refine GL.guardT rfl ?_
          refine GL.move I0.mono (by conv => lhs; whnf) ?_
          refine GL.guardT rfl ?_
          refine GL.un I0.mono rfl ?_
          refine GL.guardT rfl ?_
          refine GL.move I0.mono (by conv => lhs; whnf) ?_
          refine GL.splitAt 108 rfl (fun h108 => ?_) (fun h108 => ?_)
          ·rw [h108]
           skip
           refine GL.guardT rfl ?_
           refine GL.move I0.mono (by conv => lhs; whnf) ?_
           refine GL.guardT rfl ?_
           refine GL.bin I0.mono rfl ?_
           refine GL.guardT rfl ?_
           refine GL.pick I0.mono rfl (by conv => lhs; whnf) ?_
           refine GL.pick I0.mono rfl (by conv => lhs; whnf) ?_
           refine GL.doneF ?_
           refine goOn ?_
           refine Wp.condI rfl (fun h112 => ?_) (fun h112 => ?_)
           ·replace h112 := bne_true h112
            exact absurd (q2 h98) h112
           ·replace h112 := bne_false h112
            refine Wp.skipI ?_
            refine blockX.normal ?_
            refine goOn ?_
            refine Wp.regI I0.mono ?_
            refine GL.addR I0.mono rfl rfl (by omega) ?_
            refine GL.move I0.mono (by conv => lhs; whnf) ?_
            refine GL.doneF ?_
            refine ⟨k + 1, (by dsimp only; omega), _, (LessS.weak (LessS.upd (LessS.upd (LessS.upd (LessS.upd (LessS.upd (LessS.upd (LessS.upd (LessS.upd (LessS.upd (LessS.upd (LessS.upd (LessS.upd (LessS.upd (LessS.nil _) rfl) rfl) rfl) rfl) rfl) rfl) rfl) rfl) rfl) rfl) rfl) rfl) rfl) _), (by omega), _, (congrArg (St.mk _) (effM_eq (Has.cons rfl Has.nil)).symm)⟩
          ·rw [h108]
           skip
           refine GL.guardF rfl ?_
           refine GL.guardF rfl ?_
           refine GL.guardT rfl ?_
           refine GL.pick I0.mono rfl (by conv => lhs; whnf) ?_
           refine GL.pick I0.mono rfl (by conv => lhs; whnf) ?_
           refine GL.doneF ?_
           refine goOn ?_
           refine Wp.condF rfl ?_
           refine Wp.skipI ?_
           refine blockX.normal ?_
           refine goOn ?_
           refine Wp.regI I0.mono ?_
           refine GL.addR I0.mono rfl rfl (by omega) ?_
           refine GL.move I0.mono (by conv => lhs; whnf) ?_
           refine GL.doneF ?_
           refine ⟨k + 1, (by dsimp only; omega), _, (LessS.weak (LessS.upd (LessS.upd (LessS.upd (LessS.upd (LessS.upd (LessS.upd (LessS.upd (LessS.upd (LessS.upd (LessS.upd (LessS.upd (LessS.upd (LessS.upd (LessS.nil _) rfl) rfl) rfl) rfl) rfl) rfl) rfl) rfl) rfl) rfl) rfl) rfl) rfl) _), (by omega), _, (congrArg (St.mk _) (effM_eq (Has.cons rfl Has.nil)).symm)⟩
     ·replace h63 := of_decide_eq_false h63
      refine Wp.exitI ?_
      refine thenX.exit ?_
      refine thenX.exit ?_
      refine blockX.out ?_
      refine blockX.normal ?_
      refine goOn ?_
      refine Wp.regI I0.mono ?_
      refine GL.addR I0.mono rfl rfl (by omega) ?_
      refine GL.move I0.mono (by conv => lhs; whnf) ?_
      refine GL.doneF ?_
      refine ⟨j + 1, (by dsimp only; omega), _, (LessS.weak (LessS.upd (LessS.upd (LessS.upd (LessS.upd (LessS.upd (LessS.upd (LessS.upd (LessS.upd (LessS.upd (LessS.nil _) rfl) rfl) rfl) rfl) rfl) rfl) rfl) rfl) rfl) _), (by omega), _, (congrArg (St.mk _) (effM_eq (Has.cons rfl Has.nil)).symm)⟩
    ·replace h58 := of_decide_eq_false h58
     refine Wp.exitI ?_
     refine thenX.exit ?_
     refine thenX.exit ?_
     refine blockX.out ?_
     refine goOn ?_
     refine Wp.seqI ?_
     refine Wp.regI I0.mono ?_
     refine GL.call0 I0.mono rfl (Frz.aggn) (wakes5_ok) rfl rfl (fun _ => rfl) ?_
     refine GL.assign I0.mono (by conv => lhs; whnf) ?_
     refine GL.doneF ?_
     refine goOn ?_
     refine Wp.retI ?_
     refine RetX.ret ?_
     refine ⟨_, _, _, _, .cons (.tmp rfl) .nil, .frz (.pure rfl), List.nodup_nil, by simp, ?_⟩
     rfl


theorem law_TabMeets (z0 : List Int) (h0 : Ints z0) (z1 : List Int) (h1 : Ints z1) (z2 : List Int) (h2 : Ints z2) (n : Int) : CallsV Try.prog 13 [.sl (em ni z0), .sl (em ni z1), .sl (em ni z2), .int .i64 n] (.bool true) := by
  have hb := inst_sb z0
  have hp := inst_sp z0
  have hsd := inst_sd z0
  have ht := tb_inst hb hsd
  have hci := within_in (a := n) (n := (instOf z0).cars.length) (by have := hb.sq.cars0; omega)
  have hr := row_short (instOf z0) z1
  have hs := row_short (instOf z0) z2
  have hT : isT (instOf z0) (within n (instOf z0).cars.length) 0 = true := isT_mk ⟨hci.1, hci.2, by omega, by omega⟩
  have e1 := heads_ok (instOf z0) ht (within n (instOf z0).cars.length) (rowOf (instOf z0) z1) (by unfold Short; omega)
  have e2 := tails_ok (instOf z0) ht (within n (instOf z0).cars.length) (rowOf (instOf z0) z2) (by unfold Short; omega)
  rw [heads, if_pos hT] at e1
  rw [tails, if_pos hT] at e2
  refine tm_walk z0 z1 z2 n (instOf z0) hb.sq.short hb.sq.cars1 (inst_ok z0 h0) _ _ (row_ok _ hb.sq.short z1 h1) (row_ok _ hb.sq.short z2 h2) hr hs _ rfl _ _ e1 e2 (headsK_len _ _ _ _) (tailsK_len _ _ _ _) fun j k hj hk => ?_
  rw [headsK_get _ _ _ hj, tailsK_get _ _ _ hk, if_neg (Nat.not_lt_zero _)]
  have hm := meet_ok (instOf z0) hb.sq.short (within n (instOf z0).cars.length) (headOf (instOf z0) (within n (instOf z0).cars.length) ((rowOf (instOf z0) z1).take j)) (tailOf (instOf z0) (within n (instOf z0).cars.length) ((rowOf (instOf z0) z2).drop k))
  have hlen : ((rowOf (instOf z0) z1).take j).length + ((rowOf (instOf z0) z2).drop k).length ≤ 1000 := by rw [List.length_take, List.length_drop]; omega
  rw [meet_eval hb hp hsd hci.1 hci.2 _ _ hlen] at hm
  cases he : eval (instOf z0) (within n (instOf z0).cars.length) ((rowOf (instOf z0) z1).take j ++ (rowOf (instOf z0) z2).drop k) with
  | none =>
    rw [he] at hm
    refine ⟨0, false, zeroT, hm, fun l hl => ?_, fun h => (by cases h), fun _ => rfl⟩
    have := reval_ok (instOf z0) (nStops z0) hb hp (within n (instOf z0).cars.length) l (by rw [hl, List.length_append]; omega)
    rw [hl, he] at this
    rw [hl]
    exact this
  | some T =>
    rw [he] at hm
    refine ⟨T.t2, true, T, hm, fun l hl => ?_, fun _ => rfl, fun h => (by cases h)⟩
    have := reval_ok (instOf z0) (nStops z0) hb hp (within n (instOf z0).cars.length) l (by rw [hl, List.length_append]; omega)
    rw [hl, he] at this
    rw [hl]
    exact this

end Go.Proofs.Ytpepcfombibpeaa
