/- The law of the sets of a table, walked. -/
import Derived.Test.YtpepcfombibpeaaFg
import Derived.Test.YtpepcfombibpeaaFp
import Derived.Test.YtpepcfombibpeaaFw
import Derived.Test.YtpepcfombibpeaaFx
import Derived.Test.YtpepcfombibpeaaMvC
import Derived.KernelRfl
set_option linter.unusedVariables false
set_option linter.unusedSimpArgs false
namespace Go.Proofs.Ytpepcfombibpeaa
open Go.Proofs Mv


theorem band_t {a : BitVec 32} {x : Int} (h0 : 1 ≤ x) (h1 : x ≤ 31) (h : a &&& digit x ≠ 0#32) : inS a x = true := by
  rw [← Bool.not_eq_false]
  exact fun q => h ((and_digit h0 h1).2 q)
theorem band_f {a : BitVec 32} {x : Int} (h0 : 1 ≤ x) (h1 : x ≤ 31) (h : ¬ a &&& digit x ≠ 0#32) : inS a x = false := (and_digit h0 h1).1 (Decidable.not_not.1 h)
theorem min_lt {j k : Nat} (h : j < k) : min (j + 1) k = j + 1 ∧ min j k = j := by omega
theorem min_ge {j k : Nat} (h : ¬ j < k) : min (j + 1) k = k ∧ min j k = k := by omega
theorem bits_ahead {i : Inst} {l : List Int} {j k : Nat} (hj : j < l.length) (h : j < k) (hs : isStop i (l.getD j default) = true) : Mv.bits i (l.take (min (j + 1) k)) = Mv.bits i (l.take (min j k)) ||| digit (l.getD j default) := by
  rw [(min_lt h).1, (min_lt h).2, ← take_snoc hj, bits_snoc, if_pos hs]
theorem bits_ahead0 {i : Inst} {l : List Int} {j k : Nat} (hj : j < l.length) (h : ¬ j < k ∨ ¬ isStop i (l.getD j default) = true) : Mv.bits i (l.take (min (j + 1) k)) = Mv.bits i (l.take (min j k)) := by
  by_cases hk : j < k
  · rw [(min_lt hk).1, (min_lt hk).2, ← take_snoc hj, bits_snoc, if_neg (h.resolve_left (not_not_intro hk))]
  · rw [(min_ge hk).1, (min_ge hk).2]
theorem drop_take1 {l : List Int} {j k : Nat} (hj : j < l.length) (h : ¬ j < k) : (l.take (j + 1)).drop k = (l.take j).drop k ++ [l.getD j default] := by
  rw [← take_snoc hj, List.drop_append_of_le_length (by rw [List.length_take]; omega)]
theorem bits_behind {i : Inst} {l : List Int} {j k : Nat} (hj : j < l.length) (h : ¬ j < k) (hs : isStop i (l.getD j default) = true) : Mv.bits i ((l.take (j + 1)).drop k) = Mv.bits i ((l.take j).drop k) ||| digit (l.getD j default) := by
  rw [drop_take1 hj h, bits_snoc, if_pos hs]
theorem bits_behind0 {i : Inst} {l : List Int} {j k : Nat} (hj : j < l.length) (h : j < k ∨ ¬ isStop i (l.getD j default) = true) : Mv.bits i ((l.take (j + 1)).drop k) = Mv.bits i ((l.take j).drop k) := by
  by_cases hk : j < k
  · rw [List.drop_of_length_le (by rw [List.length_take]; omega), List.drop_of_length_le (by rw [List.length_take]; omega)]
  · rw [drop_take1 hj hk, bits_snoc, if_neg (h.resolve_left hk)]
theorem ahead_step {i : Inst} {l : List Int} {j k : Nat} (hj : j < l.length) : Mv.bits i (l.take (min (j + 1) k)) = if j < k ∧ isStop i (l.getD j default) = true then Mv.bits i (l.take (min j k)) ||| digit (l.getD j default) else Mv.bits i (l.take (min j k)) := by
  by_cases h : j < k
  · by_cases hs : isStop i (l.getD j default) = true
    · rw [if_pos ⟨h, hs⟩, bits_ahead hj h hs]
    · rw [if_neg fun z => hs z.2, bits_ahead0 hj (.inr hs)]
  · rw [if_neg fun z => h z.1, bits_ahead0 hj (.inl h)]
theorem behind_step {i : Inst} {l : List Int} {j k : Nat} (hj : j < l.length) : Mv.bits i ((l.take (j + 1)).drop k) = if ¬ j < k ∧ isStop i (l.getD j default) = true then Mv.bits i ((l.take j).drop k) ||| digit (l.getD j default) else Mv.bits i ((l.take j).drop k) := by
  by_cases h : j < k
  · rw [if_neg fun z => z.1 h, bits_behind0 hj (.inl h)]
  · by_cases hs : isStop i (l.getD j default) = true
    · rw [if_pos ⟨h, hs⟩, bits_behind hj h hs]
    · rw [if_neg fun z => hs z.2, bits_behind0 hj (.inr hs)]
theorem not_stop {i : Inst} {x : Int} (h : x < 1 ∨ x > i.stops.length) : ¬ isStop i x = true := by
  unfold isStop
  simp only [Bool.and_eq_true, decide_eq_true_eq]
  omega
theorem two_snoc {l : List Two} {q : Nat} (h : q < l.length) : l.take (q + 1) = l.take q ++ [l.getD q default] := (take_snoc h).symm


theorem stop_of {i : Inst} {x : Int} (h : ¬ x < 1) (h1 : ¬ x > i.stops.length) : isStop i x = true := by
  unfold isStop
  simp only [Bool.and_eq_true, decide_eq_true_eq]
  omega

set_option maxRecDepth 100000 in
set_option maxHeartbeats 4000000 in
theorem ts_walk (z0 z1 : List Int) (n : Int) (I : Inst) (N : Nat) (hb : Sb I N) (hsd : Sd I) (hI : CallsV Try.prog 29 [.sl (em ni z0)] (ei I)) (r : List Int) (hr : CallsV Try.prog 30 [ei I, .sl (em ni z1)] (.sl (em ni r))) (hrl : r.length ≤ 14) (c : Int) (hc : within n I.cars.length = c) (HL : List Head) (TL : List Tail) (hH : CallsV Try.prog 38 [ei I, .int .i64 c, .sl (em ni r)] (.sl (em nh HL))) (hT : CallsV Try.prog 35 [ei I, .int .i64 c, .sl (em ni r)] (.sl (em nl TL))) (hHl : HL.length = r.length + 1) (hTl : TL.length = r.length + 1) (hh : ∀ k : Nat, k ≤ r.length → (HL.getD k default).ok = true → (HL.getD k default).set = Mv.bits I (r.take k) ∧ (HL.getD k default).opn = opens (Mv.bits I (r.take k)) I.pairs) (ht : ∀ k : Nat, k ≤ r.length → (TL.getD k default).ok = true → (TL.getD k default).set = Mv.bits I (r.drop k) ∧ (TL.getD k default).need = needs (Mv.bits I (r.drop k)) I.pairs) (hz : ∀ k : Nat, k ≤ r.length → ¬ (HL.getD k default).ok = true → HL.getD k default = zeroH) (hy : ∀ k : Nat, k ≤ r.length → ¬ (TL.getD k default).ok = true → TL.getD k default = zeroTl) : CallsV Try.prog 14 [.sl (em ni z0), .sl (em ni z1), .int .i64 n] (.bool true) := by
  refine CallsR.intro (I0.sound _) mix Try.func14 rfl rfl (by simp [Try.f14]) (by kernel_rfl) (nb := 0) ?_
  unfold Try.f14
  refine Wp.seqI ?_
  refine Wp.regI I0.mono ?_
  refine GL.assign I0.mono (by conv => lhs; whnf) ?_
  refine GL.doneF ?_
  refine goOn ?_
  refine Wp.seqI ?_
  refine Wp.regI I0.mono ?_
  refine GL.move I0.mono (by conv => lhs; whnf) ?_
  refine GL.call0 I0.mono rfl (Frz.aggc (by exact Frz.pure rfl) (Frz.aggn)) (hI) rfl rfl (fun _ => rfl) ?_
  refine GL.alloc I0.mono (cs := [LV.nils, LV.nils, LV.nils, LV.nils]) rfl rfl ?_
  intro g7
  refine GL.storeW I0.mono (n := 4) rfl rfl rfl rfl rfl rfl rfl (by conv => lhs; whnf) rfl rfl rfl ?_
  refine GL.doneF ?_
  refine goOn ?_
  refine Wp.seqI ?_
  refine Wp.regI I0.mono ?_
  refine GL.move I0.mono (by conv => lhs; whnf) ?_
  refine GL.fieldAddr I0.mono (o := 0) rfl rfl rfl rfl (by conv => lhs; whnf) ?_
  refine GL.load I0.mono rfl rfl rfl rfl (by simp) rfl rfl ?_
  refine GL.lenF I0.mono rfl rfl (em_len _ _) ?_
  refine GL.call0 I0.mono rfl (Frz.aggc (by exact Frz.pure rfl) (Frz.aggc (by exact Frz.pure rfl) (Frz.aggn))) ((hc ▸ within_ok _ _ (by have := hb.sq.cars1; omega))) rfl rfl (fun _ => rfl) ?_
  refine GL.assign I0.mono (by conv => lhs; whnf) ?_
  refine GL.doneF ?_
  refine goOn ?_
  refine Wp.seqI ?_
  refine Wp.regI I0.mono ?_
  refine GL.loadW I0.mono (n := 4) rfl rfl rfl rfl (by simp) rfl rfl rfl ?_
  refine GL.move I0.mono (by conv => lhs; whnf) ?_
  refine GL.call0 I0.mono rfl (Frz.aggc (by exact Frz.pures rfl) (Frz.aggc (by exact Frz.pure rfl) (Frz.aggn))) (hr) rfl rfl (fun _ => rfl) ?_
  refine GL.assign I0.mono (by conv => lhs; whnf) ?_
  refine GL.doneF ?_
  refine goOn ?_
  refine Wp.seqI ?_
  refine Wp.regD ?_
  refine GL.loadW I0.mono (n := 4) rfl rfl rfl rfl (by simp) rfl rfl rfl ?_
  refine GL.move I0.mono (by conv => lhs; whnf) ?_
  refine GL.move I0.mono (by conv => lhs; whnf) ?_
  refine GL.call0 I0.mono rfl (Frz.aggc (by exact Frz.pures rfl) (Frz.aggc (by exact Frz.pure rfl) (Frz.aggc (by exact Frz.pure rfl) (Frz.aggn)))) (hH) rfl rfl (fun _ => rfl) ?_
  refine GL.loadW I0.mono (n := 4) rfl rfl rfl rfl (by simp) rfl rfl rfl ?_
  refine GL.move I0.mono (by conv => lhs; whnf) ?_
  refine GL.move I0.mono (by conv => lhs; whnf) ?_
  refine GL.call0 I0.mono rfl (Frz.aggc (by exact Frz.pures rfl) (Frz.aggc (by exact Frz.pure rfl) (Frz.aggc (by exact Frz.pure rfl) (Frz.aggn)))) (hT) rfl rfl (fun _ => rfl) ?_
  refine GL.assign I0.mono (by conv => lhs; whnf) ?_
  refine GL.assign I0.mono (by conv => lhs; whnf) ?_
  refine GL.doneT (by kernel_rfl) ?_
  refine goOn ?_
  refine Wp.seqI ?_
  refine Wp.seqI ?_
  refine Wp.regI I0.mono ?_
  refine GL.move I0.mono (by conv => lhs; whnf) ?_
  refine GL.lenF I0.mono rfl rfl (em_len _ _) ?_
  refine GL.move I0.mono (by conv => lhs; whnf) ?_
  refine GL.lenF I0.mono rfl rfl (em_len _ _) ?_
  refine GL.addR I0.mono rfl rfl (by omega) ?_
  refine GL.bin I0.mono rfl ?_
  refine GL.move I0.mono (by conv => lhs; whnf) ?_
  refine GL.splitAt 46 rfl (fun h46 => ?_) (fun h46 => ?_)
  ·rw [h46]
   replace h46 := bne_true h46
   exact absurd h46 (by omega)
  ·rw [h46]
   replace h46 := bne_false h46
   refine GL.guardT rfl ?_
   refine GL.move I0.mono (by conv => lhs; whnf) ?_
   refine GL.guardT rfl ?_
   refine GL.lenF I0.mono rfl rfl (em_len _ _) ?_
   refine GL.guardT rfl ?_
   refine GL.move I0.mono (by conv => lhs; whnf) ?_
   refine GL.guardT rfl ?_
   refine GL.lenF I0.mono rfl rfl (em_len _ _) ?_
   refine GL.guardT rfl ?_
   refine GL.addR I0.mono rfl rfl (by omega) ?_
   refine GL.guardT rfl ?_
   refine GL.bin I0.mono rfl ?_
   refine GL.pick I0.mono rfl (by conv => lhs; whnf) ?_
   refine GL.doneF ?_
   refine goOn ?_
   refine Wp.condI rfl (fun h53 => ?_) (fun h53 => ?_)
   ·replace h53 := bne_true h53
    exact absurd h53 (by omega)
   ·replace h53 := bne_false h53
    refine Wp.skipI ?_
    refine goOn ?_
    refine Wp.seqI ?_
    refine Wp.seqI ?_
    refine Wp.regI I0.mono ?_
    refine GL.move I0.mono (by conv => lhs; whnf) ?_
    refine GL.lenF I0.mono rfl rfl (em_len _ _) ?_
    refine GL.move I0.mono (by conv => lhs; whnf) ?_
    refine GL.doneF ?_
    refine goOn ?_
    refine Wp.blockI ?_
    refine Wp.loopI I0.mono (α := Nat) (fun k st => (k ≤ HL.length) ∧ ∃ m0, st = ⟨(updS (updS (updS (updS (updS (updS (updS (updS (fun _ => LV.undef) 2 (.int .i64 c)) 7 (.ref 448 g7 0 0)) 8 (.sl (em ni r))) 9 (.sl (em nh HL))) 10 (.sl (em nl TL))) 54 (.sl (em nh HL))) 55 (.int .i64 (HL.length : Int))) 56 (.int .i64 (k : Int))), effM m0 [(448, ⟨g7, false, .var, 4, [ic I]⟩)]⟩) (fun k => HL.length - k) 0 ⟨_, (LessS.weak (LessS.upd (LessS.upd (LessS.upd (LessS.upd (LessS.upd (LessS.upd (LessS.upd (LessS.upd (LessS.nil _) rfl) rfl) rfl) rfl) rfl) rfl) rfl) rfl) _), (Nat.zero_le _), _, (congrArg (St.mk _) (effM_eq (Has.cons rfl Has.nil)).symm)⟩ ?_
    rintro k _ ⟨hi, m0, rfl⟩
    refine Wp.seqI ?_
    refine Wp.regI I0.mono ?_
    refine GL.bin I0.mono rfl ?_
    refine GL.doneF ?_
    refine goOn ?_
    refine Wp.seqI ?_
    refine Wp.condI rfl (fun h57 => ?_) (fun h57 => ?_)
    ·replace h57 := of_decide_eq_true h57
     have hN := hb.sq.high
     have hS := hb.sq.stops
     have hpl := hb.sq.short.pairs
     unfold Short at hpl
     refine Wp.skipI ?_
     refine goOn ?_
     refine Wp.seqI ?_
     refine Wp.blockI ?_
     refine Wp.seqI ?_
     refine Wp.regI I0.mono ?_
     refine GL.move I0.mono (by conv => lhs; whnf) ?_
     refine GL.assign I0.mono (by conv => lhs; whnf) ?_
     refine GL.doneF ?_
     refine goOn ?_
     refine Wp.seqI ?_
     refine Wp.regI I0.mono ?_
     refine GL.assign I0.mono (by conv => lhs; whnf) ?_
     refine GL.assign I0.mono (by conv => lhs; whnf) ?_
     refine GL.assign I0.mono (by conv => lhs; whnf) ?_
     refine GL.assign I0.mono (by conv => lhs; whnf) ?_
     refine GL.doneF ?_
     refine goOn ?_
     refine Wp.seqI ?_
     refine Wp.seqI ?_
     refine Wp.regI I0.mono ?_
     refine GL.move I0.mono (by conv => lhs; whnf) ?_
     refine GL.lenF I0.mono rfl rfl (em_len _ _) ?_
     refine GL.move I0.mono (by conv => lhs; whnf) ?_
     refine GL.doneF ?_
     refine goOn ?_
     refine Wp.blockI ?_
     refine Wp.loopI I0.mono (α := Nat) (fun j st => (j ≤ r.length) ∧ ∃ m0, st = ⟨(updS (updS (updS (updS (updS (updS (updS (updS (updS (updS (updS (updS (updS (updS (updS (updS (fun _ => LV.undef) 2 (.int .i64 c)) 7 (.ref 448 g7 0 0)) 8 (.sl (em ni r))) 9 (.sl (em nh HL))) 10 (.sl (em nl TL))) 54 (.sl (em nh HL))) 55 (.int .i64 (HL.length : Int))) 56 (.int .i64 (k : Int))) 11 (.int .i64 (k : Int))) 12 (u32 (Mv.bits I (r.take (min j k))))) 13 (u32 (Mv.bits I ((r.take j).drop k)))) 14 (u32 0#32)) 15 (u32 0#32)) 59 (.sl (em ni r))) 60 (.int .i64 (r.length : Int))) 61 (.int .i64 (j : Int))), effM m0 [(448, ⟨g7, false, .var, 4, [ic I]⟩)]⟩) (fun j => r.length - j) 0 ⟨_, (LessS.weak (LessS.upd (LessS.upd (LessS.upd (LessS.upd (LessS.upd (LessS.upd (LessS.upd (LessS.upd (LessS.upd (LessS.upd (LessS.upd (LessS.upd (LessS.upd (LessS.upd (LessS.upd (LessS.upd (LessS.nil _) rfl) rfl) rfl) rfl) rfl) rfl) rfl) rfl) rfl) (by rw [show min 0 k = 0 by omega]; rfl)) (by rw [List.take_zero, List.drop_nil]; rfl)) rfl) rfl) rfl) rfl) rfl) _), (Nat.zero_le _), _, (congrArg (St.mk _) (effM_eq (Has.cons rfl Has.nil)).symm)⟩ ?_
     rintro j _ ⟨hj, m0, rfl⟩
     refine Wp.seqI ?_
     refine Wp.regI I0.mono ?_
     refine GL.bin I0.mono rfl ?_
     refine GL.doneF ?_
     refine goOn ?_
     refine Wp.seqI ?_
     refine Wp.condI rfl (fun h62 => ?_) (fun h62 => ?_)
     ·replace h62 := of_decide_eq_true h62
      refine Wp.skipI ?_
      refine goOn ?_
      refine Wp.seqI ?_
      refine Wp.blockI ?_
      refine Wp.seqI ?_
      refine Wp.regI I0.mono ?_
      refine GL.move I0.mono (by conv => lhs; whnf) ?_
      refine GL.indexAddrF I0.mono (sz := 1) rfl rfl rfl rfl (by omega) (by (rw [em_len]; omega)) (by intro e he; obtain ⟨a, -, rfl⟩ := List.mem_map.1 he; rfl) (by with_reducible exact Int.toNat_natCast _) ?_
      refine GL.loadF I0.mono rfl rfl (em_get (by omega)) rfl ?_
      refine GL.assign I0.mono (by conv => lhs; whnf) ?_
      refine GL.assign I0.mono (by conv => lhs; whnf) ?_
      refine GL.doneF ?_
      refine goOn ?_
      refine Wp.seqI ?_
      refine Wp.seqI ?_
      refine Wp.regI I0.mono ?_
      refine GL.move I0.mono (by conv => lhs; whnf) ?_
      refine GL.bin I0.mono rfl ?_
      refine GL.move I0.mono (by conv => lhs; whnf) ?_
      refine GL.splitAt 68 rfl (fun h68 => ?_) (fun h68 => ?_)
      ·rw [h68]
       replace h68 := of_decide_eq_true h68
       refine GL.guardF rfl ?_
       refine GL.guardF rfl ?_
       refine GL.guardF rfl ?_
       refine GL.guardF rfl ?_
       refine GL.guardF rfl ?_
       refine GL.pick I0.mono rfl (by conv => lhs; whnf) ?_
       refine GL.doneF ?_
       refine goOn ?_
       refine Wp.condT rfl ?_
       refine Wp.exitI ?_
       refine thenX.exit ?_
       refine blockX.out ?_
       refine goOn ?_
       refine Wp.regI I0.mono ?_
       refine GL.addR I0.mono rfl rfl (by omega) ?_
       refine GL.move I0.mono (by conv => lhs; whnf) ?_
       refine GL.doneF ?_
       refine ⟨j + 1, (by dsimp only; omega), _, (LessS.weak (LessS.upd (LessS.upd (LessS.upd (LessS.upd (LessS.upd (LessS.upd (LessS.upd (LessS.upd (LessS.upd (LessS.upd (LessS.upd (LessS.upd (LessS.upd (LessS.upd (LessS.upd (LessS.upd (LessS.nil _) rfl) rfl) rfl) rfl) rfl) rfl) rfl) rfl) rfl) (by rw [ahead_step (show j < r.length by omega)]; (first | rw [if_pos ⟨by omega, hx⟩] | rw [if_neg (fun z => by have z1 := z.1; first | omega | exact absurd z.2 (not_stop (by omega)))]); rfl)) (by rw [behind_step (show j < r.length by omega)]; (first | rw [if_pos ⟨by omega, hx⟩] | rw [if_neg (fun z => by have z1 := z.1; first | omega | exact absurd z.2 (not_stop (by omega)))]); rfl)) rfl) rfl) rfl) rfl) rfl) _), (by omega), _, (congrArg (St.mk _) (effM_eq (Has.cons rfl Has.nil)).symm)⟩
      ·rw [h68]
       replace h68 := of_decide_eq_false h68
       refine GL.guardT rfl ?_
       refine GL.move I0.mono (by conv => lhs; whnf) ?_
       refine GL.guardT rfl ?_
       refine GL.fieldAddr I0.mono (o := 1) rfl rfl rfl rfl (by conv => lhs; whnf) ?_
       refine GL.guardT rfl ?_
       refine GL.load I0.mono rfl rfl rfl rfl (by simp) rfl rfl ?_
       refine GL.guardT rfl ?_
       refine GL.lenF I0.mono rfl rfl (em_len _ _) ?_
       refine GL.guardT rfl ?_
       refine GL.bin I0.mono rfl ?_
       refine GL.pick I0.mono rfl (by conv => lhs; whnf) ?_
       refine GL.doneF ?_
       refine goOn ?_
       refine Wp.condI rfl (fun h74 => ?_) (fun h74 => ?_)
       ·replace h74 := of_decide_eq_true h74
        refine Wp.exitI ?_
        refine thenX.exit ?_
        refine blockX.out ?_
        refine goOn ?_
        refine Wp.regI I0.mono ?_
        refine GL.addR I0.mono rfl rfl (by omega) ?_
        refine GL.move I0.mono (by conv => lhs; whnf) ?_
        refine GL.doneF ?_
        refine ⟨j + 1, (by dsimp only; omega), _, (LessS.weak (LessS.upd (LessS.upd (LessS.upd (LessS.upd (LessS.upd (LessS.upd (LessS.upd (LessS.upd (LessS.upd (LessS.upd (LessS.upd (LessS.upd (LessS.upd (LessS.upd (LessS.upd (LessS.upd (LessS.nil _) rfl) rfl) rfl) rfl) rfl) rfl) rfl) rfl) rfl) (by rw [ahead_step (show j < r.length by omega)]; (first | rw [if_pos ⟨by omega, hx⟩] | rw [if_neg (fun z => by have z1 := z.1; first | omega | exact absurd z.2 (not_stop (by omega)))]); rfl)) (by rw [behind_step (show j < r.length by omega)]; (first | rw [if_pos ⟨by omega, hx⟩] | rw [if_neg (fun z => by have z1 := z.1; first | omega | exact absurd z.2 (not_stop (by omega)))]); rfl)) rfl) rfl) rfl) rfl) rfl) _), (by omega), _, (congrArg (St.mk _) (effM_eq (Has.cons rfl Has.nil)).symm)⟩
       ·replace h74 := of_decide_eq_false h74
        refine Wp.skipI ?_
        refine goOn ?_
        refine Wp.seqI ?_
        refine Wp.regI I0.mono ?_
        refine GL.move I0.mono (by conv => lhs; whnf) ?_
        refine GL.move I0.mono (by conv => lhs; whnf) ?_
        refine GL.bin I0.mono rfl ?_
        refine GL.doneF ?_
        refine goOn ?_
        refine Wp.condI rfl (fun h77 => ?_) (fun h77 => ?_)
        ·replace h77 := of_decide_eq_true h77
         have hx := stop_of h68 h74
         refine Wp.regI I0.mono ?_
         refine GL.move I0.mono (by conv => lhs; whnf) ?_
         refine GL.move I0.mono (by conv => lhs; whnf) ?_
         refine GL.conv I0.mono rfl rfl ?_
         refine GL.bin I0.mono (shl_one (r.getD j default) (by omega) (by omega)) ?_
         refine GL.orB I0.mono rfl rfl ?_
         refine GL.assign I0.mono (by conv => lhs; whnf) ?_
         refine GL.doneF ?_
         refine blockX.normal ?_
         refine goOn ?_
         refine Wp.regI I0.mono ?_
         refine GL.addR I0.mono rfl rfl (by omega) ?_
         refine GL.move I0.mono (by conv => lhs; whnf) ?_
         refine GL.doneF ?_
         refine ⟨j + 1, (by dsimp only; omega), _, (LessS.weak (LessS.upd (LessS.upd (LessS.upd (LessS.upd (LessS.upd (LessS.upd (LessS.upd (LessS.upd (LessS.upd (LessS.upd (LessS.upd (LessS.upd (LessS.upd (LessS.upd (LessS.upd (LessS.upd (LessS.nil _) rfl) rfl) rfl) rfl) rfl) rfl) rfl) rfl) rfl) (by rw [ahead_step (show j < r.length by omega)]; (first | rw [if_pos ⟨by omega, hx⟩] | rw [if_neg (fun z => by have z1 := z.1; first | omega | exact absurd z.2 (not_stop (by omega)))]); rfl)) (by rw [behind_step (show j < r.length by omega)]; (first | rw [if_pos ⟨by omega, hx⟩] | rw [if_neg (fun z => by have z1 := z.1; first | omega | exact absurd z.2 (not_stop (by omega)))]); rfl)) rfl) rfl) rfl) rfl) rfl) _), (by omega), _, (congrArg (St.mk _) (effM_eq (Has.cons rfl Has.nil)).symm)⟩
        ·replace h77 := of_decide_eq_false h77
         have hx := stop_of h68 h74
         refine Wp.regI I0.mono ?_
         refine GL.move I0.mono (by conv => lhs; whnf) ?_
         refine GL.move I0.mono (by conv => lhs; whnf) ?_
         refine GL.conv I0.mono rfl rfl ?_
         refine GL.bin I0.mono (shl_one (r.getD j default) (by omega) (by omega)) ?_
         refine GL.orB I0.mono rfl rfl ?_
         refine GL.assign I0.mono (by conv => lhs; whnf) ?_
         refine GL.doneF ?_
         refine blockX.normal ?_
         refine goOn ?_
         refine Wp.regI I0.mono ?_
         refine GL.addR I0.mono rfl rfl (by omega) ?_
         refine GL.move I0.mono (by conv => lhs; whnf) ?_
         refine GL.doneF ?_
         refine ⟨j + 1, (by dsimp only; omega), _, (LessS.weak (LessS.upd (LessS.upd (LessS.upd (LessS.upd (LessS.upd (LessS.upd (LessS.upd (LessS.upd (LessS.upd (LessS.upd (LessS.upd (LessS.upd (LessS.upd (LessS.upd (LessS.upd (LessS.upd (LessS.nil _) rfl) rfl) rfl) rfl) rfl) rfl) rfl) rfl) rfl) (by rw [ahead_step (show j < r.length by omega)]; (first | rw [if_pos ⟨by omega, hx⟩] | rw [if_neg (fun z => by have z1 := z.1; first | omega | exact absurd z.2 (not_stop (by omega)))]); rfl)) (by rw [behind_step (show j < r.length by omega)]; (first | rw [if_pos ⟨by omega, hx⟩] | rw [if_neg (fun z => by have z1 := z.1; first | omega | exact absurd z.2 (not_stop (by omega)))]); rfl)) rfl) rfl) rfl) rfl) rfl) _), (by omega), _, (congrArg (St.mk _) (effM_eq (Has.cons rfl Has.nil)).symm)⟩
     ·replace h62 := of_decide_eq_false h62
      obtain rfl : j = r.length := by omega
      rw [List.take_length, show min r.length k = k by omega]
      refine Wp.exitI ?_
      refine thenX.exit ?_
      refine thenX.exit ?_
      refine blockX.out ?_
      refine goOn ?_
      refine Wp.seqI ?_
      refine Wp.seqI ?_
      refine Wp.regI I0.mono ?_
      refine GL.fieldAddr I0.mono (o := 2) rfl rfl rfl rfl (by conv => lhs; whnf) ?_
      refine GL.load I0.mono rfl rfl rfl rfl (by simp) rfl rfl ?_
      refine GL.lenF I0.mono rfl rfl (em_len _ _) ?_
      refine GL.move I0.mono (by conv => lhs; whnf) ?_
      refine GL.doneF ?_
      refine goOn ?_
      refine Wp.blockI ?_
      refine Wp.loopI I0.mono (α := Nat) (fun q st => (q ≤ I.pairs.length) ∧ ∃ m0, st = ⟨(updS (updS (updS (updS (updS (updS (updS (updS (updS (updS (updS (updS (updS (updS (updS (updS (fun _ => LV.undef) 2 (.int .i64 c)) 7 (.ref 448 g7 0 0)) 8 (.sl (em ni r))) 9 (.sl (em nh HL))) 10 (.sl (em nl TL))) 54 (.sl (em nh HL))) 55 (.int .i64 (HL.length : Int))) 56 (.int .i64 (k : Int))) 11 (.int .i64 (k : Int))) 12 (u32 (Mv.bits I (r.take k)))) 13 (u32 (Mv.bits I (r.drop k)))) 14 (u32 (opens (Mv.bits I (r.take k)) (I.pairs.take q)))) 15 (u32 (needs (Mv.bits I (r.drop k)) (I.pairs.take q)))) 90 (.sl (em np I.pairs))) 91 (.int .i64 (I.pairs.length : Int))) 92 (.int .i64 (q : Int))), effM m0 [(448, ⟨g7, false, .var, 4, [ic I]⟩)]⟩) (fun q => I.pairs.length - q) 0 ⟨_, (LessS.weak (LessS.upd (LessS.upd (LessS.upd (LessS.upd (LessS.upd (LessS.upd (LessS.upd (LessS.upd (LessS.upd (LessS.upd (LessS.upd (LessS.upd (LessS.upd (LessS.upd (LessS.upd (LessS.upd (LessS.nil _) rfl) rfl) rfl) rfl) rfl) rfl) rfl) rfl) rfl) rfl) rfl) rfl) rfl) rfl) rfl) rfl) _), (Nat.zero_le _), _, (congrArg (St.mk _) (effM_eq (Has.cons rfl Has.nil)).symm)⟩ ?_
      rintro q _ ⟨hq, m0, rfl⟩
      refine Wp.seqI ?_
      refine Wp.regI I0.mono ?_
      refine GL.bin I0.mono rfl ?_
      refine GL.doneF ?_
      refine goOn ?_
      refine Wp.seqI ?_
      refine Wp.condI rfl (fun h93 => ?_) (fun h93 => ?_)
      ·replace h93 := of_decide_eq_true h93
       obtain ⟨p1, p2, p3⟩ := hsd _ (pairs_mem (i := I) (k := q) (by omega))
       have p4 := isStop_le p1
       have p5 := isStop_le p2
       refine Wp.skipI ?_
       refine goOn ?_
       refine Wp.seqI ?_
       refine Wp.blockI ?_
       refine Wp.seqI ?_
       refine Wp.regI I0.mono ?_
       refine GL.indexAddrF I0.mono (sz := 2) rfl rfl rfl rfl (by omega) (by (rw [em_len]; omega)) (by intro e he; obtain ⟨a, -, rfl⟩ := List.mem_map.1 he; rfl) (by with_reducible exact Int.toNat_natCast _) ?_
       refine GL.loadFW I0.mono (n := 2) rfl rfl (em_get (by omega)) rfl rfl ?_
       refine GL.alloc I0.mono (cs := [LV.int .i64 0, LV.int .i64 0]) rfl rfl ?_
       intro g19
       refine GL.storeW I0.mono (n := 2) rfl rfl rfl rfl rfl rfl rfl (by conv => lhs; whnf) rfl rfl rfl ?_
       refine GL.doneF ?_
       refine goOn ?_
       refine Wp.seqI ?_
       refine Wp.regD ?_
       refine GL.indexAddrA I0.mono (sz := 1) (len := 2) rfl rfl rfl rfl rfl rfl (by decide) (by decide) (by conv => lhs; whnf) ?_
       refine GL.load I0.mono rfl rfl rfl rfl (by simp) rfl rfl ?_
       refine GL.conv I0.mono rfl rfl ?_
       refine GL.bin I0.mono (shl_one (I.pairs.getD q default).p0 (by omega) (by omega)) ?_
       refine GL.indexAddrA I0.mono (sz := 1) (len := 2) rfl rfl rfl rfl rfl rfl (by decide) (by decide) (by conv => lhs; whnf) ?_
       refine GL.load I0.mono rfl rfl rfl rfl (by simp) rfl rfl ?_
       refine GL.conv I0.mono rfl rfl ?_
       refine GL.bin I0.mono (shl_one (I.pairs.getD q default).p1 (by omega) (by omega)) ?_
       refine GL.assign I0.mono (by conv => lhs; whnf) ?_
       refine GL.assign I0.mono (by conv => lhs; whnf) ?_
       refine GL.doneT (by kernel_rfl) ?_
       refine goOn ?_
       refine Wp.seqI ?_
       refine Wp.seqI ?_
       refine Wp.regI I0.mono ?_
       refine GL.move I0.mono (by conv => lhs; whnf) ?_
       refine GL.move I0.mono (by conv => lhs; whnf) ?_
       refine GL.andB I0.mono rfl rfl ?_
       refine GL.neqB I0.mono (b := 0#32) rfl rfl ?_
       refine GL.move I0.mono (by conv => lhs; whnf) ?_
       refine GL.splitAt 108 rfl (fun h108 => ?_) (fun h108 => ?_)
       ·rw [h108]
        replace h108 := of_decide_eq_true h108
        refine GL.guardT rfl ?_
        refine GL.move I0.mono (by conv => lhs; whnf) ?_
        refine GL.guardT rfl ?_
        refine GL.move I0.mono (by conv => lhs; whnf) ?_
        refine GL.guardT rfl ?_
        refine GL.andB I0.mono rfl rfl ?_
        refine GL.guardT rfl ?_
        refine GL.eqlB I0.mono (b := 0#32) rfl rfl ?_
        refine GL.pick I0.mono rfl (by conv => lhs; whnf) ?_
        refine GL.doneF ?_
        refine goOn ?_
        refine Wp.condI rfl (fun h113 => ?_) (fun h113 => ?_)
        ·replace h113 := of_decide_eq_true h113
         have hA : opens (Mv.bits I (r.take k)) (I.pairs.take (q + 1)) = opens (Mv.bits I (r.take k)) (I.pairs.take q) ||| digit (I.pairs.getD q default).p0 := by rw [two_snoc (show q < I.pairs.length by omega), opens_snoc]; exact if_pos ⟨band_t (by omega) (by omega) h108, (and_digit (by omega) (by omega)).1 h113⟩
         refine Wp.regI I0.mono ?_
         refine GL.move I0.mono (by conv => lhs; whnf) ?_
         refine GL.move I0.mono (by conv => lhs; whnf) ?_
         refine GL.orB I0.mono rfl rfl ?_
         refine GL.assign I0.mono (by conv => lhs; whnf) ?_
         refine GL.doneF ?_
         refine goOn ?_
         refine Wp.seqI ?_
         refine Wp.regI I0.mono ?_
         refine GL.move I0.mono (by conv => lhs; whnf) ?_
         refine GL.move I0.mono (by conv => lhs; whnf) ?_
         refine GL.andB I0.mono rfl rfl ?_
         refine GL.neqB I0.mono (b := 0#32) rfl rfl ?_
         refine GL.move I0.mono (by conv => lhs; whnf) ?_
         refine GL.splitAt 121 rfl (fun h121 => ?_) (fun h121 => ?_)
         ·rw [h121]
          replace h121 := of_decide_eq_true h121
          refine GL.guardT rfl ?_
          refine GL.move I0.mono (by conv => lhs; whnf) ?_
          refine GL.guardT rfl ?_
          refine GL.move I0.mono (by conv => lhs; whnf) ?_
          refine GL.guardT rfl ?_
          refine GL.andB I0.mono rfl rfl ?_
          refine GL.guardT rfl ?_
          refine GL.eqlB I0.mono (b := 0#32) rfl rfl ?_
          refine GL.pick I0.mono rfl (by conv => lhs; whnf) ?_
          refine GL.doneF ?_
          refine goOn ?_
          refine Wp.condI rfl (fun h126 => ?_) (fun h126 => ?_)
          ·replace h126 := of_decide_eq_true h126
           have hB : needs (Mv.bits I (r.drop k)) (I.pairs.take (q + 1)) = needs (Mv.bits I (r.drop k)) (I.pairs.take q) ||| digit (I.pairs.getD q default).p0 := by rw [two_snoc (show q < I.pairs.length by omega), needs_snoc]; exact if_pos ⟨band_t (by omega) (by omega) h121, (and_digit (by omega) (by omega)).1 h126⟩
           refine Wp.regI I0.mono ?_
           refine GL.move I0.mono (by conv => lhs; whnf) ?_
           refine GL.move I0.mono (by conv => lhs; whnf) ?_
           refine GL.orB I0.mono rfl rfl ?_
           refine GL.assign I0.mono (by conv => lhs; whnf) ?_
           refine GL.doneF ?_
           refine blockX.normal ?_
           refine goOn ?_
           refine Wp.regI I0.mono ?_
           refine GL.addR I0.mono rfl rfl (by omega) ?_
           refine GL.move I0.mono (by conv => lhs; whnf) ?_
           refine GL.doneF ?_
           refine ⟨q + 1, (by dsimp only; omega), _, (LessS.weak (LessS.upd (LessS.upd (LessS.upd (LessS.upd (LessS.upd (LessS.upd (LessS.upd (LessS.upd (LessS.upd (LessS.upd (LessS.upd (LessS.upd (LessS.upd (LessS.upd (LessS.upd (LessS.upd (LessS.nil _) rfl) rfl) rfl) rfl) rfl) rfl) rfl) rfl) rfl) rfl) rfl) (by rw [hA]; rfl)) (by rw [hB]; rfl)) rfl) rfl) rfl) _), (by omega), _, (congrArg (St.mk _) (effM_eq (Has.cons rfl Has.nil)).symm)⟩
          ·replace h126 := of_decide_eq_false h126
           have hB : needs (Mv.bits I (r.drop k)) (I.pairs.take (q + 1)) = needs (Mv.bits I (r.drop k)) (I.pairs.take q) := by rw [two_snoc (show q < I.pairs.length by omega), needs_snoc]; exact if_neg fun z => h126 ((and_digit (by omega) (by omega)).2 z.2)
           refine Wp.skipI ?_
           refine blockX.normal ?_
           refine goOn ?_
           refine Wp.regI I0.mono ?_
           refine GL.addR I0.mono rfl rfl (by omega) ?_
           refine GL.move I0.mono (by conv => lhs; whnf) ?_
           refine GL.doneF ?_
           refine ⟨q + 1, (by dsimp only; omega), _, (LessS.weak (LessS.upd (LessS.upd (LessS.upd (LessS.upd (LessS.upd (LessS.upd (LessS.upd (LessS.upd (LessS.upd (LessS.upd (LessS.upd (LessS.upd (LessS.upd (LessS.upd (LessS.upd (LessS.upd (LessS.nil _) rfl) rfl) rfl) rfl) rfl) rfl) rfl) rfl) rfl) rfl) rfl) (by rw [hA]; rfl)) (by rw [hB]; rfl)) rfl) rfl) rfl) _), (by omega), _, (congrArg (St.mk _) (effM_eq (Has.cons rfl Has.nil)).symm)⟩
         ·rw [h121]
          replace h121 := of_decide_eq_false h121
          have hB : needs (Mv.bits I (r.drop k)) (I.pairs.take (q + 1)) = needs (Mv.bits I (r.drop k)) (I.pairs.take q) := by rw [two_snoc (show q < I.pairs.length by omega), needs_snoc]; exact if_neg fun z => (by rw [band_f (by omega) (by omega) h121] at z; cases z.1)
          refine GL.guardF rfl ?_
          refine GL.guardF rfl ?_
          refine GL.guardF rfl ?_
          refine GL.guardF rfl ?_
          refine GL.pick I0.mono rfl (by conv => lhs; whnf) ?_
          refine GL.doneF ?_
          refine goOn ?_
          refine Wp.condF rfl ?_
          refine Wp.skipI ?_
          refine blockX.normal ?_
          refine goOn ?_
          refine Wp.regI I0.mono ?_
          refine GL.addR I0.mono rfl rfl (by omega) ?_
          refine GL.move I0.mono (by conv => lhs; whnf) ?_
          refine GL.doneF ?_
          refine ⟨q + 1, (by dsimp only; omega), _, (LessS.weak (LessS.upd (LessS.upd (LessS.upd (LessS.upd (LessS.upd (LessS.upd (LessS.upd (LessS.upd (LessS.upd (LessS.upd (LessS.upd (LessS.upd (LessS.upd (LessS.upd (LessS.upd (LessS.upd (LessS.nil _) rfl) rfl) rfl) rfl) rfl) rfl) rfl) rfl) rfl) rfl) rfl) (by rw [hA]; rfl)) (by rw [hB]; rfl)) rfl) rfl) rfl) _), (by omega), _, (congrArg (St.mk _) (effM_eq (Has.cons rfl Has.nil)).symm)⟩
        ·replace h113 := of_decide_eq_false h113
         have hA : opens (Mv.bits I (r.take k)) (I.pairs.take (q + 1)) = opens (Mv.bits I (r.take k)) (I.pairs.take q) := by rw [two_snoc (show q < I.pairs.length by omega), opens_snoc]; exact if_neg fun z => h113 ((and_digit (by omega) (by omega)).2 z.2)
         refine Wp.skipI ?_
         refine goOn ?_
         refine Wp.seqI ?_
         refine Wp.regI I0.mono ?_
         refine GL.move I0.mono (by conv => lhs; whnf) ?_
         refine GL.move I0.mono (by conv => lhs; whnf) ?_
         refine GL.andB I0.mono rfl rfl ?_
         refine GL.neqB I0.mono (b := 0#32) rfl rfl ?_
         refine GL.move I0.mono (by conv => lhs; whnf) ?_
         refine GL.splitAt 121 rfl (fun h121 => ?_) (fun h121 => ?_)
         ·rw [h121]
          replace h121 := of_decide_eq_true h121
          refine GL.guardT rfl ?_
          refine GL.move I0.mono (by conv => lhs; whnf) ?_
          refine GL.guardT rfl ?_
          refine GL.move I0.mono (by conv => lhs; whnf) ?_
          refine GL.guardT rfl ?_
          refine GL.andB I0.mono rfl rfl ?_
          refine GL.guardT rfl ?_
          refine GL.eqlB I0.mono (b := 0#32) rfl rfl ?_
          refine GL.pick I0.mono rfl (by conv => lhs; whnf) ?_
          refine GL.doneF ?_
          refine goOn ?_
          refine Wp.condI rfl (fun h126 => ?_) (fun h126 => ?_)
          ·replace h126 := of_decide_eq_true h126
           have hB : needs (Mv.bits I (r.drop k)) (I.pairs.take (q + 1)) = needs (Mv.bits I (r.drop k)) (I.pairs.take q) ||| digit (I.pairs.getD q default).p0 := by rw [two_snoc (show q < I.pairs.length by omega), needs_snoc]; exact if_pos ⟨band_t (by omega) (by omega) h121, (and_digit (by omega) (by omega)).1 h126⟩
           refine Wp.regI I0.mono ?_
           refine GL.move I0.mono (by conv => lhs; whnf) ?_
           refine GL.move I0.mono (by conv => lhs; whnf) ?_
           refine GL.orB I0.mono rfl rfl ?_
           refine GL.assign I0.mono (by conv => lhs; whnf) ?_
           refine GL.doneF ?_
           refine blockX.normal ?_
           refine goOn ?_
           refine Wp.regI I0.mono ?_
           refine GL.addR I0.mono rfl rfl (by omega) ?_
           refine GL.move I0.mono (by conv => lhs; whnf) ?_
           refine GL.doneF ?_
           refine ⟨q + 1, (by dsimp only; omega), _, (LessS.weak (LessS.upd (LessS.upd (LessS.upd (LessS.upd (LessS.upd (LessS.upd (LessS.upd (LessS.upd (LessS.upd (LessS.upd (LessS.upd (LessS.upd (LessS.upd (LessS.upd (LessS.upd (LessS.upd (LessS.nil _) rfl) rfl) rfl) rfl) rfl) rfl) rfl) rfl) rfl) rfl) rfl) (by rw [hA]; rfl)) (by rw [hB]; rfl)) rfl) rfl) rfl) _), (by omega), _, (congrArg (St.mk _) (effM_eq (Has.cons rfl Has.nil)).symm)⟩
          ·replace h126 := of_decide_eq_false h126
           have hB : needs (Mv.bits I (r.drop k)) (I.pairs.take (q + 1)) = needs (Mv.bits I (r.drop k)) (I.pairs.take q) := by rw [two_snoc (show q < I.pairs.length by omega), needs_snoc]; exact if_neg fun z => h126 ((and_digit (by omega) (by omega)).2 z.2)
           refine Wp.skipI ?_
           refine blockX.normal ?_
           refine goOn ?_
           refine Wp.regI I0.mono ?_
           refine GL.addR I0.mono rfl rfl (by omega) ?_
           refine GL.move I0.mono (by conv => lhs; whnf) ?_
           refine GL.doneF ?_
           refine ⟨q + 1, (by dsimp only; omega), _, (LessS.weak (LessS.upd (LessS.upd (LessS.upd (LessS.upd (LessS.upd (LessS.upd (LessS.upd (LessS.upd (LessS.upd (LessS.upd (LessS.upd (LessS.upd (LessS.upd (LessS.upd (LessS.upd (LessS.upd (LessS.nil _) rfl) rfl) rfl) rfl) rfl) rfl) rfl) rfl) rfl) rfl) rfl) (by rw [hA]; rfl)) (by rw [hB]; rfl)) rfl) rfl) rfl) _), (by omega), _, (congrArg (St.mk _) (effM_eq (Has.cons rfl Has.nil)).symm)⟩
         ·rw [h121]
          replace h121 := of_decide_eq_false h121
          have hB : needs (Mv.bits I (r.drop k)) (I.pairs.take (q + 1)) = needs (Mv.bits I (r.drop k)) (I.pairs.take q) := by rw [two_snoc (show q < I.pairs.length by omega), needs_snoc]; exact if_neg fun z => (by rw [band_f (by omega) (by omega) h121] at z; cases z.1)
          refine GL.guardF rfl ?_
          refine GL.guardF rfl ?_
          refine GL.guardF rfl ?_
          refine GL.guardF rfl ?_
          refine GL.pick I0.mono rfl (by conv => lhs; whnf) ?_
          refine GL.doneF ?_
          refine goOn ?_
          refine Wp.condF rfl ?_
          refine Wp.skipI ?_
          refine blockX.normal ?_
          refine goOn ?_
          refine Wp.regI I0.mono ?_
          refine GL.addR I0.mono rfl rfl (by omega) ?_
          refine GL.move I0.mono (by conv => lhs; whnf) ?_
          refine GL.doneF ?_
          refine ⟨q + 1, (by dsimp only; omega), _, (LessS.weak (LessS.upd (LessS.upd (LessS.upd (LessS.upd (LessS.upd (LessS.upd (LessS.upd (LessS.upd (LessS.upd (LessS.upd (LessS.upd (LessS.upd (LessS.upd (LessS.upd (LessS.upd (LessS.upd (LessS.nil _) rfl) rfl) rfl) rfl) rfl) rfl) rfl) rfl) rfl) rfl) rfl) (by rw [hA]; rfl)) (by rw [hB]; rfl)) rfl) rfl) rfl) _), (by omega), _, (congrArg (St.mk _) (effM_eq (Has.cons rfl Has.nil)).symm)⟩
       ·rw [h108]
        replace h108 := of_decide_eq_false h108
        have hA : opens (Mv.bits I (r.take k)) (I.pairs.take (q + 1)) = opens (Mv.bits I (r.take k)) (I.pairs.take q) := by rw [two_snoc (show q < I.pairs.length by omega), opens_snoc]; exact if_neg fun z => (by rw [band_f (by omega) (by omega) h108] at z; cases z.1)
        refine GL.guardF rfl ?_
        refine GL.guardF rfl ?_
        refine GL.guardF rfl ?_
        refine GL.guardF rfl ?_
        refine GL.pick I0.mono rfl (by conv => lhs; whnf) ?_
        refine GL.doneF ?_
        refine goOn ?_
        refine Wp.condF rfl ?_
        refine Wp.skipI ?_
        refine goOn ?_
        refine Wp.seqI ?_
        refine Wp.regI I0.mono ?_
        refine GL.move I0.mono (by conv => lhs; whnf) ?_
        refine GL.move I0.mono (by conv => lhs; whnf) ?_
        refine GL.andB I0.mono rfl rfl ?_
        refine GL.neqB I0.mono (b := 0#32) rfl rfl ?_
        refine GL.move I0.mono (by conv => lhs; whnf) ?_
        refine GL.splitAt 121 rfl (fun h121 => ?_) (fun h121 => ?_)
        ·rw [h121]
         replace h121 := of_decide_eq_true h121
         refine GL.guardT rfl ?_
         refine GL.move I0.mono (by conv => lhs; whnf) ?_
         refine GL.guardT rfl ?_
         refine GL.move I0.mono (by conv => lhs; whnf) ?_
         refine GL.guardT rfl ?_
         refine GL.andB I0.mono rfl rfl ?_
         refine GL.guardT rfl ?_
         refine GL.eqlB I0.mono (b := 0#32) rfl rfl ?_
         refine GL.pick I0.mono rfl (by conv => lhs; whnf) ?_
         refine GL.doneF ?_
         refine goOn ?_
         refine Wp.condI rfl (fun h126 => ?_) (fun h126 => ?_)
         ·replace h126 := of_decide_eq_true h126
          have hB : needs (Mv.bits I (r.drop k)) (I.pairs.take (q + 1)) = needs (Mv.bits I (r.drop k)) (I.pairs.take q) ||| digit (I.pairs.getD q default).p0 := by rw [two_snoc (show q < I.pairs.length by omega), needs_snoc]; exact if_pos ⟨band_t (by omega) (by omega) h121, (and_digit (by omega) (by omega)).1 h126⟩
          refine Wp.regI I0.mono ?_
          refine GL.move I0.mono (by conv => lhs; whnf) ?_
          refine GL.move I0.mono (by conv => lhs; whnf) ?_
          refine GL.orB I0.mono rfl rfl ?_
          refine GL.assign I0.mono (by conv => lhs; whnf) ?_
          refine GL.doneF ?_
          refine blockX.normal ?_
          refine goOn ?_
          refine Wp.regI I0.mono ?_
          refine GL.addR I0.mono rfl rfl (by omega) ?_
          refine GL.move I0.mono (by conv => lhs; whnf) ?_
          refine GL.doneF ?_
          refine ⟨q + 1, (by dsimp only; omega), _, (LessS.weak (LessS.upd (LessS.upd (LessS.upd (LessS.upd (LessS.upd (LessS.upd (LessS.upd (LessS.upd (LessS.upd (LessS.upd (LessS.upd (LessS.upd (LessS.upd (LessS.upd (LessS.upd (LessS.upd (LessS.nil _) rfl) rfl) rfl) rfl) rfl) rfl) rfl) rfl) rfl) rfl) rfl) (by rw [hA]; rfl)) (by rw [hB]; rfl)) rfl) rfl) rfl) _), (by omega), _, (congrArg (St.mk _) (effM_eq (Has.cons rfl Has.nil)).symm)⟩
         ·replace h126 := of_decide_eq_false h126
          have hB : needs (Mv.bits I (r.drop k)) (I.pairs.take (q + 1)) = needs (Mv.bits I (r.drop k)) (I.pairs.take q) := by rw [two_snoc (show q < I.pairs.length by omega), needs_snoc]; exact if_neg fun z => h126 ((and_digit (by omega) (by omega)).2 z.2)
          refine Wp.skipI ?_
          refine blockX.normal ?_
          refine goOn ?_
          refine Wp.regI I0.mono ?_
          refine GL.addR I0.mono rfl rfl (by omega) ?_
          refine GL.move I0.mono (by conv => lhs; whnf) ?_
          refine GL.doneF ?_
          refine ⟨q + 1, (by dsimp only; omega), _, (LessS.weak (LessS.upd (LessS.upd (LessS.upd (LessS.upd (LessS.upd (LessS.upd (LessS.upd (LessS.upd (LessS.upd (LessS.upd (LessS.upd (LessS.upd (LessS.upd (LessS.upd (LessS.upd (LessS.upd (LessS.nil _) rfl) rfl) rfl) rfl) rfl) rfl) rfl) rfl) rfl) rfl) rfl) (by rw [hA]; rfl)) (by rw [hB]; rfl)) rfl) rfl) rfl) _), (by omega), _, (congrArg (St.mk _) (effM_eq (Has.cons rfl Has.nil)).symm)⟩
        ·rw [h121]
         replace h121 := of_decide_eq_false h121
         have hB : needs (Mv.bits I (r.drop k)) (I.pairs.take (q + 1)) = needs (Mv.bits I (r.drop k)) (I.pairs.take q) := by rw [two_snoc (show q < I.pairs.length by omega), needs_snoc]; exact if_neg fun z => (by rw [band_f (by omega) (by omega) h121] at z; cases z.1)
         refine GL.guardF rfl ?_
         refine GL.guardF rfl ?_
         refine GL.guardF rfl ?_
         refine GL.guardF rfl ?_
         refine GL.pick I0.mono rfl (by conv => lhs; whnf) ?_
         refine GL.doneF ?_
         refine goOn ?_
         refine Wp.condF rfl ?_
         refine Wp.skipI ?_
         refine blockX.normal ?_
         refine goOn ?_
         refine Wp.regI I0.mono ?_
         refine GL.addR I0.mono rfl rfl (by omega) ?_
         refine GL.move I0.mono (by conv => lhs; whnf) ?_
         refine GL.doneF ?_
         refine ⟨q + 1, (by dsimp only; omega), _, (LessS.weak (LessS.upd (LessS.upd (LessS.upd (LessS.upd (LessS.upd (LessS.upd (LessS.upd (LessS.upd (LessS.upd (LessS.upd (LessS.upd (LessS.upd (LessS.upd (LessS.upd (LessS.upd (LessS.upd (LessS.nil _) rfl) rfl) rfl) rfl) rfl) rfl) rfl) rfl) rfl) rfl) rfl) (by rw [hA]; rfl)) (by rw [hB]; rfl)) rfl) rfl) rfl) _), (by omega), _, (congrArg (St.mk _) (effM_eq (Has.cons rfl Has.nil)).symm)⟩
      ·replace h93 := of_decide_eq_false h93
       obtain rfl : q = I.pairs.length := by omega
       rw [List.take_length]
       have hhk := hh k (by omega)
       have htk := ht k (by omega)
       have hzk := hz k (by omega)
       have hyk := hy k (by omega)
       refine Wp.exitI ?_
       refine thenX.exit ?_
       refine thenX.exit ?_
       refine blockX.out ?_
       refine goOn ?_
       refine Wp.seqI ?_
       refine Wp.seqI ?_
       refine Wp.regI I0.mono ?_
       refine GL.move I0.mono (by conv => lhs; whnf) ?_
       refine GL.move I0.mono (by conv => lhs; whnf) ?_
       refine GL.indexAddrF I0.mono (sz := 7) rfl rfl rfl rfl (by omega) (by (rw [em_len]; omega)) (by intro e he; obtain ⟨a, -, rfl⟩ := List.mem_map.1 he; rfl) (by with_reducible exact Int.toNat_natCast _) ?_
       refine GL.fieldAddrF I0.mono (o := 0) rfl rfl (by conv => lhs; whnf) ?_
       refine GL.loadF I0.mono rfl rfl (em_get (by omega)) rfl ?_
       refine GL.move I0.mono (by conv => lhs; whnf) ?_
       refine GL.splitAt 136 rfl (fun h136 => ?_) (fun h136 => ?_)
       ·rw [h136]
        skip
        refine GL.guardT rfl ?_
        refine GL.move I0.mono (by conv => lhs; whnf) ?_
        refine GL.guardT rfl ?_
        refine GL.move I0.mono (by conv => lhs; whnf) ?_
        refine GL.guardT rfl ?_
        refine GL.indexAddrF I0.mono (sz := 7) rfl rfl rfl rfl (by omega) (by (rw [em_len]; omega)) (by intro e he; obtain ⟨a, -, rfl⟩ := List.mem_map.1 he; rfl) (by with_reducible exact Int.toNat_natCast _) ?_
        refine GL.guardT rfl ?_
        refine GL.fieldAddrF I0.mono (o := 5) rfl rfl (by conv => lhs; whnf) ?_
        refine GL.guardT rfl ?_
        refine GL.loadF I0.mono rfl rfl (em_get (by omega)) rfl ?_
        refine GL.guardT rfl ?_
        refine GL.move I0.mono (by conv => lhs; whnf) ?_
        refine GL.guardT rfl ?_
        refine GL.neqB I0.mono rfl rfl ?_
        refine GL.guardT rfl ?_
        refine GL.move I0.mono (by conv => lhs; whnf) ?_
        refine GL.splitAt 144 rfl (fun h144 => ?_) (fun h144 => ?_)
        ·rw [h144]
         replace h144 := of_decide_eq_true h144
         exact absurd (hhk h136).1 h144
        ·rw [h144]
         replace h144 := of_decide_eq_false h144
         refine GL.guardT rfl ?_
         refine GL.move I0.mono (by conv => lhs; whnf) ?_
         refine GL.guardT rfl ?_
         refine GL.move I0.mono (by conv => lhs; whnf) ?_
         refine GL.guardT rfl ?_
         refine GL.indexAddrF I0.mono (sz := 7) rfl rfl rfl rfl (by omega) (by (rw [em_len]; omega)) (by intro e he; obtain ⟨a, -, rfl⟩ := List.mem_map.1 he; rfl) (by with_reducible exact Int.toNat_natCast _) ?_
         refine GL.guardT rfl ?_
         refine GL.fieldAddrF I0.mono (o := 4) rfl rfl (by conv => lhs; whnf) ?_
         refine GL.guardT rfl ?_
         refine GL.loadF I0.mono rfl rfl (em_get (by omega)) rfl ?_
         refine GL.guardT rfl ?_
         refine GL.move I0.mono (by conv => lhs; whnf) ?_
         refine GL.guardT rfl ?_
         refine GL.neqB I0.mono rfl rfl ?_
         refine GL.guardT rfl ?_
         refine GL.pick I0.mono rfl (by conv => lhs; whnf) ?_
         refine GL.pick I0.mono rfl (by conv => lhs; whnf) ?_
         refine GL.move I0.mono (by conv => lhs; whnf) ?_
         refine GL.splitAt 154 rfl (fun h154 => ?_) (fun h154 => ?_)
         ·rw [h154]
          replace h154 := of_decide_eq_true h154
          exact absurd (hhk h136).2 h154
         ·rw [h154]
          replace h154 := of_decide_eq_false h154
          refine GL.guardT rfl ?_
          refine GL.move I0.mono (by conv => lhs; whnf) ?_
          refine GL.guardT rfl ?_
          refine GL.move I0.mono (by conv => lhs; whnf) ?_
          refine GL.guardT rfl ?_
          refine GL.indexAddrF I0.mono (sz := 8) rfl rfl rfl rfl (by omega) (by (rw [em_len]; omega)) (by intro e he; obtain ⟨a, -, rfl⟩ := List.mem_map.1 he; rfl) (by with_reducible exact Int.toNat_natCast _) ?_
          refine GL.guardT rfl ?_
          refine GL.fieldAddrF I0.mono (o := 0) rfl rfl (by conv => lhs; whnf) ?_
          refine GL.guardT rfl ?_
          refine GL.loadF I0.mono rfl rfl (em_get (by omega)) rfl ?_
          refine GL.guardT rfl ?_
          refine GL.move I0.mono (by conv => lhs; whnf) ?_
          refine GL.splitAt 160 rfl (fun h160 => ?_) (fun h160 => ?_)
          ·rw [h160]
           skip
           refine GL.guardT rfl ?_
           refine GL.move I0.mono (by conv => lhs; whnf) ?_
           refine GL.guardT rfl ?_
           refine GL.move I0.mono (by conv => lhs; whnf) ?_
           refine GL.guardT rfl ?_
           refine GL.indexAddrF I0.mono (sz := 8) rfl rfl rfl rfl (by omega) (by (rw [em_len]; omega)) (by intro e he; obtain ⟨a, -, rfl⟩ := List.mem_map.1 he; rfl) (by with_reducible exact Int.toNat_natCast _) ?_
           refine GL.guardT rfl ?_
           refine GL.fieldAddrF I0.mono (o := 6) rfl rfl (by conv => lhs; whnf) ?_
           refine GL.guardT rfl ?_
           refine GL.loadF I0.mono rfl rfl (em_get (by omega)) rfl ?_
           refine GL.guardT rfl ?_
           refine GL.move I0.mono (by conv => lhs; whnf) ?_
           refine GL.guardT rfl ?_
           refine GL.neqB I0.mono rfl rfl ?_
           refine GL.guardT rfl ?_
           refine GL.move I0.mono (by conv => lhs; whnf) ?_
           refine GL.splitAt 168 rfl (fun h168 => ?_) (fun h168 => ?_)
           ·rw [h168]
            replace h168 := of_decide_eq_true h168
            exact absurd (htk h160).1 h168
           ·rw [h168]
            replace h168 := of_decide_eq_false h168
            refine GL.guardT rfl ?_
            refine GL.move I0.mono (by conv => lhs; whnf) ?_
            refine GL.guardT rfl ?_
            refine GL.move I0.mono (by conv => lhs; whnf) ?_
            refine GL.guardT rfl ?_
            refine GL.indexAddrF I0.mono (sz := 8) rfl rfl rfl rfl (by omega) (by (rw [em_len]; omega)) (by intro e he; obtain ⟨a, -, rfl⟩ := List.mem_map.1 he; rfl) (by with_reducible exact Int.toNat_natCast _) ?_
            refine GL.guardT rfl ?_
            refine GL.fieldAddrF I0.mono (o := 5) rfl rfl (by conv => lhs; whnf) ?_
            refine GL.guardT rfl ?_
            refine GL.loadF I0.mono rfl rfl (em_get (by omega)) rfl ?_
            refine GL.guardT rfl ?_
            refine GL.move I0.mono (by conv => lhs; whnf) ?_
            refine GL.guardT rfl ?_
            refine GL.neqB I0.mono rfl rfl ?_
            refine GL.guardT rfl ?_
            refine GL.pick I0.mono rfl (by conv => lhs; whnf) ?_
            refine GL.guardT rfl ?_
            refine GL.pick I0.mono rfl (by conv => lhs; whnf) ?_
            refine GL.pick I0.mono rfl (by conv => lhs; whnf) ?_
            refine GL.doneF ?_
            refine goOn ?_
            refine Wp.condI rfl (fun h178 => ?_) (fun h178 => ?_)
            ·replace h178 := of_decide_eq_true h178
             exact absurd (htk h160).2 h178
            ·replace h178 := of_decide_eq_false h178
             refine Wp.skipI ?_
             refine goOn ?_
             refine Wp.seqI ?_
             refine Wp.regI I0.mono ?_
             refine GL.move I0.mono (by conv => lhs; whnf) ?_
             refine GL.move I0.mono (by conv => lhs; whnf) ?_
             refine GL.indexAddrF I0.mono (sz := 7) rfl rfl rfl rfl (by omega) (by (rw [em_len]; omega)) (by intro e he; obtain ⟨a, -, rfl⟩ := List.mem_map.1 he; rfl) (by with_reducible exact Int.toNat_natCast _) ?_
             refine GL.fieldAddrF I0.mono (o := 0) rfl rfl (by conv => lhs; whnf) ?_
             refine GL.loadF I0.mono rfl rfl (em_get (by omega)) rfl ?_
             refine GL.un I0.mono rfl ?_
             refine GL.move I0.mono (by conv => lhs; whnf) ?_
             refine GL.splitAt 185 rfl (fun h185 => ?_) (fun h185 => ?_)
             ·rw [h185]
              skip
              refine GL.guardT rfl ?_
              refine GL.move I0.mono (by conv => lhs; whnf) ?_
              refine GL.guardT rfl ?_
              refine GL.move I0.mono (by conv => lhs; whnf) ?_
              refine GL.guardT rfl ?_
              refine GL.indexAddrF I0.mono (sz := 7) rfl rfl rfl rfl (by omega) (by (rw [em_len]; omega)) (by intro e he; obtain ⟨a, -, rfl⟩ := List.mem_map.1 he; rfl) (by with_reducible exact Int.toNat_natCast _) ?_
              refine GL.guardT rfl ?_
              refine GL.loadFW I0.mono (n := 7) rfl rfl (em_get (by omega)) rfl rfl ?_
              refine GL.guardT rfl ?_
              refine GL.buildS I0.mono (z := [LV.bool false, LV.int .i64 0, LV.int .i64 0, LV.int .i64 0, LV.int .u32 0, LV.int .u32 0, LV.int .i64 0]) (cs := [_, _, _, _, _, _, _]) (n := 7) rfl rfl rfl (EvS.nil) rfl rfl ?_
              refine GL.guardT rfl ?_
              refine GL.neqA I0.mono rfl rfl (head_eq (HL.getD k default) zeroH) ?_
              refine GL.pick I0.mono rfl (by conv => lhs; whnf) ?_
              refine GL.move I0.mono (by conv => lhs; whnf) ?_
              refine GL.splitAt 193 rfl (fun h193 => ?_) (fun h193 => ?_)
              ·rw [h193]
               skip
               (rw [hzk (by rw [nbf h185]; decide)] at h193; simp at h193)
              ·rw [h193]
               skip
               refine GL.guardT rfl ?_
               refine GL.move I0.mono (by conv => lhs; whnf) ?_
               refine GL.guardT rfl ?_
               refine GL.move I0.mono (by conv => lhs; whnf) ?_
               refine GL.guardT rfl ?_
               refine GL.indexAddrF I0.mono (sz := 8) rfl rfl rfl rfl (by omega) (by (rw [em_len]; omega)) (by intro e he; obtain ⟨a, -, rfl⟩ := List.mem_map.1 he; rfl) (by with_reducible exact Int.toNat_natCast _) ?_
               refine GL.guardT rfl ?_
               refine GL.fieldAddrF I0.mono (o := 0) rfl rfl (by conv => lhs; whnf) ?_
               refine GL.guardT rfl ?_
               refine GL.loadF I0.mono rfl rfl (em_get (by omega)) rfl ?_
               refine GL.guardT rfl ?_
               refine GL.un I0.mono rfl ?_
               refine GL.guardT rfl ?_
               refine GL.move I0.mono (by conv => lhs; whnf) ?_
               refine GL.splitAt 200 rfl (fun h200 => ?_) (fun h200 => ?_)
               ·rw [h200]
                skip
                refine GL.guardT rfl ?_
                refine GL.move I0.mono (by conv => lhs; whnf) ?_
                refine GL.guardT rfl ?_
                refine GL.move I0.mono (by conv => lhs; whnf) ?_
                refine GL.guardT rfl ?_
                refine GL.indexAddrF I0.mono (sz := 8) rfl rfl rfl rfl (by omega) (by (rw [em_len]; omega)) (by intro e he; obtain ⟨a, -, rfl⟩ := List.mem_map.1 he; rfl) (by with_reducible exact Int.toNat_natCast _) ?_
                refine GL.guardT rfl ?_
                refine GL.loadFW I0.mono (n := 8) rfl rfl (em_get (by omega)) rfl rfl ?_
                refine GL.guardT rfl ?_
                refine GL.buildS I0.mono (z := [LV.bool false, LV.int .i64 0, LV.int .i64 0, LV.int .i64 0, LV.int .i64 0, LV.int .u32 0, LV.int .u32 0, LV.int .i64 0]) (cs := [_, _, _, _, _, _, _, _]) (n := 8) rfl rfl rfl (EvS.nil) rfl rfl ?_
                refine GL.guardT rfl ?_
                refine GL.neqA I0.mono rfl rfl (tail_eq (TL.getD k default) zeroTl) ?_
                refine GL.guardT rfl ?_
                refine GL.pick I0.mono rfl (by conv => lhs; whnf) ?_
                refine GL.pick I0.mono rfl (by conv => lhs; whnf) ?_
                refine GL.doneF ?_
                refine goOn ?_
                refine Wp.condI rfl (fun h208 => ?_) (fun h208 => ?_)
                ·skip
                 (rw [hyk (by rw [nbf h200]; decide)] at h208; simp at h208)
                ·skip
                 refine Wp.skipI ?_
                 refine blockX.normal ?_
                 refine goOn ?_
                 refine Wp.regI I0.mono ?_
                 refine GL.addR I0.mono rfl rfl (by omega) ?_
                 refine GL.move I0.mono (by conv => lhs; whnf) ?_
                 refine GL.doneF ?_
                 refine ⟨k + 1, (by dsimp only; omega), _, (LessS.weak (LessS.upd (LessS.upd (LessS.upd (LessS.upd (LessS.upd (LessS.upd (LessS.upd (LessS.upd (LessS.nil _) rfl) rfl) rfl) rfl) rfl) rfl) rfl) rfl) _), (by omega), _, (congrArg (St.mk _) (effM_eq (Has.cons rfl Has.nil)).symm)⟩
               ·rw [h200]
                skip
                refine GL.guardF rfl ?_
                refine GL.guardF rfl ?_
                refine GL.guardF rfl ?_
                refine GL.guardF rfl ?_
                refine GL.guardF rfl ?_
                refine GL.guardF rfl ?_
                refine GL.guardT rfl ?_
                refine GL.pick I0.mono rfl (by conv => lhs; whnf) ?_
                refine GL.pick I0.mono rfl (by conv => lhs; whnf) ?_
                refine GL.doneF ?_
                refine goOn ?_
                refine Wp.condF rfl ?_
                refine Wp.skipI ?_
                refine blockX.normal ?_
                refine goOn ?_
                refine Wp.regI I0.mono ?_
                refine GL.addR I0.mono rfl rfl (by omega) ?_
                refine GL.move I0.mono (by conv => lhs; whnf) ?_
                refine GL.doneF ?_
                refine ⟨k + 1, (by dsimp only; omega), _, (LessS.weak (LessS.upd (LessS.upd (LessS.upd (LessS.upd (LessS.upd (LessS.upd (LessS.upd (LessS.upd (LessS.nil _) rfl) rfl) rfl) rfl) rfl) rfl) rfl) rfl) _), (by omega), _, (congrArg (St.mk _) (effM_eq (Has.cons rfl Has.nil)).symm)⟩
             ·rw [h185]
              skip
              refine GL.guardF rfl ?_
              refine GL.guardF rfl ?_
              refine GL.guardF rfl ?_
              refine GL.guardF rfl ?_
              refine GL.guardF rfl ?_
              refine GL.guardF rfl ?_
              refine GL.pick I0.mono rfl (by conv => lhs; whnf) ?_
              refine GL.move I0.mono (by conv => lhs; whnf) ?_
              refine GL.guardT rfl ?_
              refine GL.move I0.mono (by conv => lhs; whnf) ?_
              refine GL.guardT rfl ?_
              refine GL.move I0.mono (by conv => lhs; whnf) ?_
              refine GL.guardT rfl ?_
              refine GL.indexAddrF I0.mono (sz := 8) rfl rfl rfl rfl (by omega) (by (rw [em_len]; omega)) (by intro e he; obtain ⟨a, -, rfl⟩ := List.mem_map.1 he; rfl) (by with_reducible exact Int.toNat_natCast _) ?_
              refine GL.guardT rfl ?_
              refine GL.fieldAddrF I0.mono (o := 0) rfl rfl (by conv => lhs; whnf) ?_
              refine GL.guardT rfl ?_
              refine GL.loadF I0.mono rfl rfl (em_get (by omega)) rfl ?_
              refine GL.guardT rfl ?_
              refine GL.un I0.mono rfl ?_
              refine GL.guardT rfl ?_
              refine GL.move I0.mono (by conv => lhs; whnf) ?_
              refine GL.splitAt 200 rfl (fun h200 => ?_) (fun h200 => ?_)
              ·rw [h200]
               skip
               refine GL.guardT rfl ?_
               refine GL.move I0.mono (by conv => lhs; whnf) ?_
               refine GL.guardT rfl ?_
               refine GL.move I0.mono (by conv => lhs; whnf) ?_
               refine GL.guardT rfl ?_
               refine GL.indexAddrF I0.mono (sz := 8) rfl rfl rfl rfl (by omega) (by (rw [em_len]; omega)) (by intro e he; obtain ⟨a, -, rfl⟩ := List.mem_map.1 he; rfl) (by with_reducible exact Int.toNat_natCast _) ?_
               refine GL.guardT rfl ?_
               refine GL.loadFW I0.mono (n := 8) rfl rfl (em_get (by omega)) rfl rfl ?_
               refine GL.guardT rfl ?_
               refine GL.buildS I0.mono (z := [LV.bool false, LV.int .i64 0, LV.int .i64 0, LV.int .i64 0, LV.int .i64 0, LV.int .u32 0, LV.int .u32 0, LV.int .i64 0]) (cs := [_, _, _, _, _, _, _, _]) (n := 8) rfl rfl rfl (EvS.nil) rfl rfl ?_
               refine GL.guardT rfl ?_
               refine GL.neqA I0.mono rfl rfl (tail_eq (TL.getD k default) zeroTl) ?_
               refine GL.guardT rfl ?_
               refine GL.pick I0.mono rfl (by conv => lhs; whnf) ?_
               refine GL.pick I0.mono rfl (by conv => lhs; whnf) ?_
               refine GL.doneF ?_
               refine goOn ?_
               refine Wp.condI rfl (fun h208 => ?_) (fun h208 => ?_)
               ·skip
                (rw [hyk (by rw [nbf h200]; decide)] at h208; simp at h208)
               ·skip
                refine Wp.skipI ?_
                refine blockX.normal ?_
                refine goOn ?_
                refine Wp.regI I0.mono ?_
                refine GL.addR I0.mono rfl rfl (by omega) ?_
                refine GL.move I0.mono (by conv => lhs; whnf) ?_
                refine GL.doneF ?_
                refine ⟨k + 1, (by dsimp only; omega), _, (LessS.weak (LessS.upd (LessS.upd (LessS.upd (LessS.upd (LessS.upd (LessS.upd (LessS.upd (LessS.upd (LessS.nil _) rfl) rfl) rfl) rfl) rfl) rfl) rfl) rfl) _), (by omega), _, (congrArg (St.mk _) (effM_eq (Has.cons rfl Has.nil)).symm)⟩
              ·rw [h200]
               skip
               refine GL.guardF rfl ?_
               refine GL.guardF rfl ?_
               refine GL.guardF rfl ?_
               refine GL.guardF rfl ?_
               refine GL.guardF rfl ?_
               refine GL.guardF rfl ?_
               refine GL.guardT rfl ?_
               refine GL.pick I0.mono rfl (by conv => lhs; whnf) ?_
               refine GL.pick I0.mono rfl (by conv => lhs; whnf) ?_
               refine GL.doneF ?_
               refine goOn ?_
               refine Wp.condF rfl ?_
               refine Wp.skipI ?_
               refine blockX.normal ?_
               refine goOn ?_
               refine Wp.regI I0.mono ?_
               refine GL.addR I0.mono rfl rfl (by omega) ?_
               refine GL.move I0.mono (by conv => lhs; whnf) ?_
               refine GL.doneF ?_
               refine ⟨k + 1, (by dsimp only; omega), _, (LessS.weak (LessS.upd (LessS.upd (LessS.upd (LessS.upd (LessS.upd (LessS.upd (LessS.upd (LessS.upd (LessS.nil _) rfl) rfl) rfl) rfl) rfl) rfl) rfl) rfl) _), (by omega), _, (congrArg (St.mk _) (effM_eq (Has.cons rfl Has.nil)).symm)⟩
          ·rw [h160]
           skip
           refine GL.guardF rfl ?_
           refine GL.guardF rfl ?_
           refine GL.guardF rfl ?_
           refine GL.guardF rfl ?_
           refine GL.guardF rfl ?_
           refine GL.guardF rfl ?_
           refine GL.guardF rfl ?_
           refine GL.guardF rfl ?_
           refine GL.guardF rfl ?_
           refine GL.guardF rfl ?_
           refine GL.guardF rfl ?_
           refine GL.guardF rfl ?_
           refine GL.guardF rfl ?_
           refine GL.guardF rfl ?_
           refine GL.guardF rfl ?_
           refine GL.guardF rfl ?_
           refine GL.guardT rfl ?_
           refine GL.pick I0.mono rfl (by conv => lhs; whnf) ?_
           refine GL.pick I0.mono rfl (by conv => lhs; whnf) ?_
           refine GL.doneF ?_
           refine goOn ?_
           refine Wp.condF rfl ?_
           refine Wp.skipI ?_
           refine goOn ?_
           refine Wp.seqI ?_
           refine Wp.regI I0.mono ?_
           refine GL.move I0.mono (by conv => lhs; whnf) ?_
           refine GL.move I0.mono (by conv => lhs; whnf) ?_
           refine GL.indexAddrF I0.mono (sz := 7) rfl rfl rfl rfl (by omega) (by (rw [em_len]; omega)) (by intro e he; obtain ⟨a, -, rfl⟩ := List.mem_map.1 he; rfl) (by with_reducible exact Int.toNat_natCast _) ?_
           refine GL.fieldAddrF I0.mono (o := 0) rfl rfl (by conv => lhs; whnf) ?_
           refine GL.loadF I0.mono rfl rfl (em_get (by omega)) rfl ?_
           refine GL.un I0.mono rfl ?_
           refine GL.move I0.mono (by conv => lhs; whnf) ?_
           refine GL.splitAt 185 rfl (fun h185 => ?_) (fun h185 => ?_)
           ·rw [h185]
            skip
            refine GL.guardT rfl ?_
            refine GL.move I0.mono (by conv => lhs; whnf) ?_
            refine GL.guardT rfl ?_
            refine GL.move I0.mono (by conv => lhs; whnf) ?_
            refine GL.guardT rfl ?_
            refine GL.indexAddrF I0.mono (sz := 7) rfl rfl rfl rfl (by omega) (by (rw [em_len]; omega)) (by intro e he; obtain ⟨a, -, rfl⟩ := List.mem_map.1 he; rfl) (by with_reducible exact Int.toNat_natCast _) ?_
            refine GL.guardT rfl ?_
            refine GL.loadFW I0.mono (n := 7) rfl rfl (em_get (by omega)) rfl rfl ?_
            refine GL.guardT rfl ?_
            refine GL.buildS I0.mono (z := [LV.bool false, LV.int .i64 0, LV.int .i64 0, LV.int .i64 0, LV.int .u32 0, LV.int .u32 0, LV.int .i64 0]) (cs := [_, _, _, _, _, _, _]) (n := 7) rfl rfl rfl (EvS.nil) rfl rfl ?_
            refine GL.guardT rfl ?_
            refine GL.neqA I0.mono rfl rfl (head_eq (HL.getD k default) zeroH) ?_
            refine GL.pick I0.mono rfl (by conv => lhs; whnf) ?_
            refine GL.move I0.mono (by conv => lhs; whnf) ?_
            refine GL.splitAt 193 rfl (fun h193 => ?_) (fun h193 => ?_)
            ·rw [h193]
             skip
             (rw [hzk (by rw [nbf h185]; decide)] at h193; simp at h193)
            ·rw [h193]
             skip
             refine GL.guardT rfl ?_
             refine GL.move I0.mono (by conv => lhs; whnf) ?_
             refine GL.guardT rfl ?_
             refine GL.move I0.mono (by conv => lhs; whnf) ?_
             refine GL.guardT rfl ?_
             refine GL.indexAddrF I0.mono (sz := 8) rfl rfl rfl rfl (by omega) (by (rw [em_len]; omega)) (by intro e he; obtain ⟨a, -, rfl⟩ := List.mem_map.1 he; rfl) (by with_reducible exact Int.toNat_natCast _) ?_
             refine GL.guardT rfl ?_
             refine GL.fieldAddrF I0.mono (o := 0) rfl rfl (by conv => lhs; whnf) ?_
             refine GL.guardT rfl ?_
             refine GL.loadF I0.mono rfl rfl (em_get (by omega)) rfl ?_
             refine GL.guardT rfl ?_
             refine GL.un I0.mono rfl ?_
             refine GL.guardT rfl ?_
             refine GL.move I0.mono (by conv => lhs; whnf) ?_
             refine GL.splitAt 200 rfl (fun h200 => ?_) (fun h200 => ?_)
             ·rw [h200]
              skip
              refine GL.guardT rfl ?_
              refine GL.move I0.mono (by conv => lhs; whnf) ?_
              refine GL.guardT rfl ?_
              refine GL.move I0.mono (by conv => lhs; whnf) ?_
              refine GL.guardT rfl ?_
              refine GL.indexAddrF I0.mono (sz := 8) rfl rfl rfl rfl (by omega) (by (rw [em_len]; omega)) (by intro e he; obtain ⟨a, -, rfl⟩ := List.mem_map.1 he; rfl) (by with_reducible exact Int.toNat_natCast _) ?_
              refine GL.guardT rfl ?_
              refine GL.loadFW I0.mono (n := 8) rfl rfl (em_get (by omega)) rfl rfl ?_
              refine GL.guardT rfl ?_
              refine GL.buildS I0.mono (z := [LV.bool false, LV.int .i64 0, LV.int .i64 0, LV.int .i64 0, LV.int .i64 0, LV.int .u32 0, LV.int .u32 0, LV.int .i64 0]) (cs := [_, _, _, _, _, _, _, _]) (n := 8) rfl rfl rfl (EvS.nil) rfl rfl ?_
              refine GL.guardT rfl ?_
              refine GL.neqA I0.mono rfl rfl (tail_eq (TL.getD k default) zeroTl) ?_
              refine GL.guardT rfl ?_
              refine GL.pick I0.mono rfl (by conv => lhs; whnf) ?_
              refine GL.pick I0.mono rfl (by conv => lhs; whnf) ?_
              refine GL.doneF ?_
              refine goOn ?_
              refine Wp.condI rfl (fun h208 => ?_) (fun h208 => ?_)
              ·skip
               (rw [hyk (by rw [nbf h200]; decide)] at h208; simp at h208)
              ·skip
               refine Wp.skipI ?_
               refine blockX.normal ?_
               refine goOn ?_
               refine Wp.regI I0.mono ?_
               refine GL.addR I0.mono rfl rfl (by omega) ?_
               refine GL.move I0.mono (by conv => lhs; whnf) ?_
               refine GL.doneF ?_
               refine ⟨k + 1, (by dsimp only; omega), _, (LessS.weak (LessS.upd (LessS.upd (LessS.upd (LessS.upd (LessS.upd (LessS.upd (LessS.upd (LessS.upd (LessS.nil _) rfl) rfl) rfl) rfl) rfl) rfl) rfl) rfl) _), (by omega), _, (congrArg (St.mk _) (effM_eq (Has.cons rfl Has.nil)).symm)⟩
             ·rw [h200]
              skip
              refine GL.guardF rfl ?_
              refine GL.guardF rfl ?_
              refine GL.guardF rfl ?_
              refine GL.guardF rfl ?_
              refine GL.guardF rfl ?_
              refine GL.guardF rfl ?_
              refine GL.guardT rfl ?_
              refine GL.pick I0.mono rfl (by conv => lhs; whnf) ?_
              refine GL.pick I0.mono rfl (by conv => lhs; whnf) ?_
              refine GL.doneF ?_
              refine goOn ?_
              refine Wp.condF rfl ?_
              refine Wp.skipI ?_
              refine blockX.normal ?_
              refine goOn ?_
              refine Wp.regI I0.mono ?_
              refine GL.addR I0.mono rfl rfl (by omega) ?_
              refine GL.move I0.mono (by conv => lhs; whnf) ?_
              refine GL.doneF ?_
              refine ⟨k + 1, (by dsimp only; omega), _, (LessS.weak (LessS.upd (LessS.upd (LessS.upd (LessS.upd (LessS.upd (LessS.upd (LessS.upd (LessS.upd (LessS.nil _) rfl) rfl) rfl) rfl) rfl) rfl) rfl) rfl) _), (by omega), _, (congrArg (St.mk _) (effM_eq (Has.cons rfl Has.nil)).symm)⟩
           ·rw [h185]
            skip
            refine GL.guardF rfl ?_
            refine GL.guardF rfl ?_
            refine GL.guardF rfl ?_
            refine GL.guardF rfl ?_
            refine GL.guardF rfl ?_
            refine GL.guardF rfl ?_
            refine GL.pick I0.mono rfl (by conv => lhs; whnf) ?_
            refine GL.move I0.mono (by conv => lhs; whnf) ?_
            refine GL.guardT rfl ?_
            refine GL.move I0.mono (by conv => lhs; whnf) ?_
            refine GL.guardT rfl ?_
            refine GL.move I0.mono (by conv => lhs; whnf) ?_
            refine GL.guardT rfl ?_
            refine GL.indexAddrF I0.mono (sz := 8) rfl rfl rfl rfl (by omega) (by (rw [em_len]; omega)) (by intro e he; obtain ⟨a, -, rfl⟩ := List.mem_map.1 he; rfl) (by with_reducible exact Int.toNat_natCast _) ?_
            refine GL.guardT rfl ?_
            refine GL.fieldAddrF I0.mono (o := 0) rfl rfl (by conv => lhs; whnf) ?_
            refine GL.guardT rfl ?_
            refine GL.loadF I0.mono rfl rfl (em_get (by omega)) rfl ?_
            refine GL.guardT rfl ?_
            refine GL.un I0.mono rfl ?_
            refine GL.guardT rfl ?_
            refine GL.move I0.mono (by conv => lhs; whnf) ?_
            refine GL.splitAt 200 rfl (fun h200 => ?_) (fun h200 => ?_)
            ·rw [h200]
             skip
             refine GL.guardT rfl ?_
             refine GL.move I0.mono (by conv => lhs; whnf) ?_
             refine GL.guardT rfl ?_
             refine GL.move I0.mono (by conv => lhs; whnf) ?_
             refine GL.guardT rfl ?_
             refine GL.indexAddrF I0.mono (sz := 8) rfl rfl rfl rfl (by omega) (by (rw [em_len]; omega)) (by intro e he; obtain ⟨a, -, rfl⟩ := List.mem_map.1 he; rfl) (by with_reducible exact Int.toNat_natCast _) ?_
             refine GL.guardT rfl ?_
             refine GL.loadFW I0.mono (n := 8) rfl rfl (em_get (by omega)) rfl rfl ?_
             refine GL.guardT rfl ?_
             refine GL.buildS I0.mono (z := [LV.bool false, LV.int .i64 0, LV.int .i64 0, LV.int .i64 0, LV.int .i64 0, LV.int .u32 0, LV.int .u32 0, LV.int .i64 0]) (cs := [_, _, _, _, _, _, _, _]) (n := 8) rfl rfl rfl (EvS.nil) rfl rfl ?_
             refine GL.guardT rfl ?_
             refine GL.neqA I0.mono rfl rfl (tail_eq (TL.getD k default) zeroTl) ?_
             refine GL.guardT rfl ?_
             refine GL.pick I0.mono rfl (by conv => lhs; whnf) ?_
             refine GL.pick I0.mono rfl (by conv => lhs; whnf) ?_
             refine GL.doneF ?_
             refine goOn ?_
             refine Wp.condI rfl (fun h208 => ?_) (fun h208 => ?_)
             ·skip
              (rw [hyk (by rw [nbf h200]; decide)] at h208; simp at h208)
             ·skip
              refine Wp.skipI ?_
              refine blockX.normal ?_
              refine goOn ?_
              refine Wp.regI I0.mono ?_
              refine GL.addR I0.mono rfl rfl (by omega) ?_
              refine GL.move I0.mono (by conv => lhs; whnf) ?_
              refine GL.doneF ?_
              refine ⟨k + 1, (by dsimp only; omega), _, (LessS.weak (LessS.upd (LessS.upd (LessS.upd (LessS.upd (LessS.upd (LessS.upd (LessS.upd (LessS.upd (LessS.nil _) rfl) rfl) rfl) rfl) rfl) rfl) rfl) rfl) _), (by omega), _, (congrArg (St.mk _) (effM_eq (Has.cons rfl Has.nil)).symm)⟩
            ·rw [h200]
             skip
             refine GL.guardF rfl ?_
             refine GL.guardF rfl ?_
             refine GL.guardF rfl ?_
             refine GL.guardF rfl ?_
             refine GL.guardF rfl ?_
             refine GL.guardF rfl ?_
             refine GL.guardT rfl ?_
             refine GL.pick I0.mono rfl (by conv => lhs; whnf) ?_
             refine GL.pick I0.mono rfl (by conv => lhs; whnf) ?_
             refine GL.doneF ?_
             refine goOn ?_
             refine Wp.condF rfl ?_
             refine Wp.skipI ?_
             refine blockX.normal ?_
             refine goOn ?_
             refine Wp.regI I0.mono ?_
             refine GL.addR I0.mono rfl rfl (by omega) ?_
             refine GL.move I0.mono (by conv => lhs; whnf) ?_
             refine GL.doneF ?_
             refine ⟨k + 1, (by dsimp only; omega), _, (LessS.weak (LessS.upd (LessS.upd (LessS.upd (LessS.upd (LessS.upd (LessS.upd (LessS.upd (LessS.upd (LessS.nil _) rfl) rfl) rfl) rfl) rfl) rfl) rfl) rfl) _), (by omega), _, (congrArg (St.mk _) (effM_eq (Has.cons rfl Has.nil)).symm)⟩
       ·rw [h136]
        skip
        refine GL.guardF rfl ?_
        refine GL.guardF rfl ?_
        refine GL.guardF rfl ?_
        refine GL.guardF rfl ?_
        refine GL.guardF rfl ?_
        refine GL.guardF rfl ?_
        refine GL.guardF rfl ?_
        refine GL.guardF rfl ?_
        refine GL.guardF rfl ?_
        refine GL.guardF rfl ?_
        refine GL.guardF rfl ?_
        refine GL.guardF rfl ?_
        refine GL.guardF rfl ?_
        refine GL.guardF rfl ?_
        refine GL.guardF rfl ?_
        refine GL.guardF rfl ?_
        refine GL.pick I0.mono rfl (by conv => lhs; whnf) ?_
        refine GL.move I0.mono (by conv => lhs; whnf) ?_
        refine GL.guardT rfl ?_
        refine GL.move I0.mono (by conv => lhs; whnf) ?_
        refine GL.guardT rfl ?_
        refine GL.move I0.mono (by conv => lhs; whnf) ?_
        refine GL.guardT rfl ?_
        refine GL.indexAddrF I0.mono (sz := 8) rfl rfl rfl rfl (by omega) (by (rw [em_len]; omega)) (by intro e he; obtain ⟨a, -, rfl⟩ := List.mem_map.1 he; rfl) (by with_reducible exact Int.toNat_natCast _) ?_
        refine GL.guardT rfl ?_
        refine GL.fieldAddrF I0.mono (o := 0) rfl rfl (by conv => lhs; whnf) ?_
        refine GL.guardT rfl ?_
        refine GL.loadF I0.mono rfl rfl (em_get (by omega)) rfl ?_
        refine GL.guardT rfl ?_
        refine GL.move I0.mono (by conv => lhs; whnf) ?_
        refine GL.splitAt 160 rfl (fun h160 => ?_) (fun h160 => ?_)
        ·rw [h160]
         skip
         refine GL.guardT rfl ?_
         refine GL.move I0.mono (by conv => lhs; whnf) ?_
         refine GL.guardT rfl ?_
         refine GL.move I0.mono (by conv => lhs; whnf) ?_
         refine GL.guardT rfl ?_
         refine GL.indexAddrF I0.mono (sz := 8) rfl rfl rfl rfl (by omega) (by (rw [em_len]; omega)) (by intro e he; obtain ⟨a, -, rfl⟩ := List.mem_map.1 he; rfl) (by with_reducible exact Int.toNat_natCast _) ?_
         refine GL.guardT rfl ?_
         refine GL.fieldAddrF I0.mono (o := 6) rfl rfl (by conv => lhs; whnf) ?_
         refine GL.guardT rfl ?_
         refine GL.loadF I0.mono rfl rfl (em_get (by omega)) rfl ?_
         refine GL.guardT rfl ?_
         refine GL.move I0.mono (by conv => lhs; whnf) ?_
         refine GL.guardT rfl ?_
         refine GL.neqB I0.mono rfl rfl ?_
         refine GL.guardT rfl ?_
         refine GL.move I0.mono (by conv => lhs; whnf) ?_
         refine GL.splitAt 168 rfl (fun h168 => ?_) (fun h168 => ?_)
         ·rw [h168]
          replace h168 := of_decide_eq_true h168
          exact absurd (htk h160).1 h168
         ·rw [h168]
          replace h168 := of_decide_eq_false h168
          refine GL.guardT rfl ?_
          refine GL.move I0.mono (by conv => lhs; whnf) ?_
          refine GL.guardT rfl ?_
          refine GL.move I0.mono (by conv => lhs; whnf) ?_
          refine GL.guardT rfl ?_
          refine GL.indexAddrF I0.mono (sz := 8) rfl rfl rfl rfl (by omega) (by (rw [em_len]; omega)) (by intro e he; obtain ⟨a, -, rfl⟩ := List.mem_map.1 he; rfl) (by with_reducible exact Int.toNat_natCast _) ?_
          refine GL.guardT rfl ?_
          refine GL.fieldAddrF I0.mono (o := 5) rfl rfl (by conv => lhs; whnf) ?_
          refine GL.guardT rfl ?_
          refine GL.loadF I0.mono rfl rfl (em_get (by omega)) rfl ?_
          refine GL.guardT rfl ?_
          refine GL.move I0.mono (by conv => lhs; whnf) ?_
          refine GL.guardT rfl ?_
          refine GL.neqB I0.mono rfl rfl ?_
          refine GL.guardT rfl ?_
          refine GL.pick I0.mono rfl (by conv => lhs; whnf) ?_
          refine GL.guardT rfl ?_
          refine GL.pick I0.mono rfl (by conv => lhs; whnf) ?_
          refine GL.pick I0.mono rfl (by conv => lhs; whnf) ?_
          refine GL.doneF ?_
          refine goOn ?_
          refine Wp.condI rfl (fun h178 => ?_) (fun h178 => ?_)
          ·replace h178 := of_decide_eq_true h178
           exact absurd (htk h160).2 h178
          ·replace h178 := of_decide_eq_false h178
           refine Wp.skipI ?_
           refine goOn ?_
           refine Wp.seqI ?_
           refine Wp.regI I0.mono ?_
           refine GL.move I0.mono (by conv => lhs; whnf) ?_
           refine GL.move I0.mono (by conv => lhs; whnf) ?_
           refine GL.indexAddrF I0.mono (sz := 7) rfl rfl rfl rfl (by omega) (by (rw [em_len]; omega)) (by intro e he; obtain ⟨a, -, rfl⟩ := List.mem_map.1 he; rfl) (by with_reducible exact Int.toNat_natCast _) ?_
           refine GL.fieldAddrF I0.mono (o := 0) rfl rfl (by conv => lhs; whnf) ?_
           refine GL.loadF I0.mono rfl rfl (em_get (by omega)) rfl ?_
           refine GL.un I0.mono rfl ?_
           refine GL.move I0.mono (by conv => lhs; whnf) ?_
           refine GL.splitAt 185 rfl (fun h185 => ?_) (fun h185 => ?_)
           ·rw [h185]
            skip
            refine GL.guardT rfl ?_
            refine GL.move I0.mono (by conv => lhs; whnf) ?_
            refine GL.guardT rfl ?_
            refine GL.move I0.mono (by conv => lhs; whnf) ?_
            refine GL.guardT rfl ?_
            refine GL.indexAddrF I0.mono (sz := 7) rfl rfl rfl rfl (by omega) (by (rw [em_len]; omega)) (by intro e he; obtain ⟨a, -, rfl⟩ := List.mem_map.1 he; rfl) (by with_reducible exact Int.toNat_natCast _) ?_
            refine GL.guardT rfl ?_
            refine GL.loadFW I0.mono (n := 7) rfl rfl (em_get (by omega)) rfl rfl ?_
            refine GL.guardT rfl ?_
            refine GL.buildS I0.mono (z := [LV.bool false, LV.int .i64 0, LV.int .i64 0, LV.int .i64 0, LV.int .u32 0, LV.int .u32 0, LV.int .i64 0]) (cs := [_, _, _, _, _, _, _]) (n := 7) rfl rfl rfl (EvS.nil) rfl rfl ?_
            refine GL.guardT rfl ?_
            refine GL.neqA I0.mono rfl rfl (head_eq (HL.getD k default) zeroH) ?_
            refine GL.pick I0.mono rfl (by conv => lhs; whnf) ?_
            refine GL.move I0.mono (by conv => lhs; whnf) ?_
            refine GL.splitAt 193 rfl (fun h193 => ?_) (fun h193 => ?_)
            ·rw [h193]
             skip
             (rw [hzk (by rw [nbf h185]; decide)] at h193; simp at h193)
            ·rw [h193]
             skip
             refine GL.guardT rfl ?_
             refine GL.move I0.mono (by conv => lhs; whnf) ?_
             refine GL.guardT rfl ?_
             refine GL.move I0.mono (by conv => lhs; whnf) ?_
             refine GL.guardT rfl ?_
             refine GL.indexAddrF I0.mono (sz := 8) rfl rfl rfl rfl (by omega) (by (rw [em_len]; omega)) (by intro e he; obtain ⟨a, -, rfl⟩ := List.mem_map.1 he; rfl) (by with_reducible exact Int.toNat_natCast _) ?_
             refine GL.guardT rfl ?_
             refine GL.fieldAddrF I0.mono (o := 0) rfl rfl (by conv => lhs; whnf) ?_
             refine GL.guardT rfl ?_
             refine GL.loadF I0.mono rfl rfl (em_get (by omega)) rfl ?_
             refine GL.guardT rfl ?_
             refine GL.un I0.mono rfl ?_
             refine GL.guardT rfl ?_
             refine GL.move I0.mono (by conv => lhs; whnf) ?_
             refine GL.splitAt 200 rfl (fun h200 => ?_) (fun h200 => ?_)
             ·rw [h200]
              skip
              refine GL.guardT rfl ?_
              refine GL.move I0.mono (by conv => lhs; whnf) ?_
              refine GL.guardT rfl ?_
              refine GL.move I0.mono (by conv => lhs; whnf) ?_
              refine GL.guardT rfl ?_
              refine GL.indexAddrF I0.mono (sz := 8) rfl rfl rfl rfl (by omega) (by (rw [em_len]; omega)) (by intro e he; obtain ⟨a, -, rfl⟩ := List.mem_map.1 he; rfl) (by with_reducible exact Int.toNat_natCast _) ?_
              refine GL.guardT rfl ?_
              refine GL.loadFW I0.mono (n := 8) rfl rfl (em_get (by omega)) rfl rfl ?_
              refine GL.guardT rfl ?_
              refine GL.buildS I0.mono (z := [LV.bool false, LV.int .i64 0, LV.int .i64 0, LV.int .i64 0, LV.int .i64 0, LV.int .u32 0, LV.int .u32 0, LV.int .i64 0]) (cs := [_, _, _, _, _, _, _, _]) (n := 8) rfl rfl rfl (EvS.nil) rfl rfl ?_
              refine GL.guardT rfl ?_
              refine GL.neqA I0.mono rfl rfl (tail_eq (TL.getD k default) zeroTl) ?_
              refine GL.guardT rfl ?_
              refine GL.pick I0.mono rfl (by conv => lhs; whnf) ?_
              refine GL.pick I0.mono rfl (by conv => lhs; whnf) ?_
              refine GL.doneF ?_
              refine goOn ?_
              refine Wp.condI rfl (fun h208 => ?_) (fun h208 => ?_)
              ·skip
               (rw [hyk (by rw [nbf h200]; decide)] at h208; simp at h208)
              ·skip
               refine Wp.skipI ?_
               refine blockX.normal ?_
               refine goOn ?_
               refine Wp.regI I0.mono ?_
               refine GL.addR I0.mono rfl rfl (by omega) ?_
               refine GL.move I0.mono (by conv => lhs; whnf) ?_
               refine GL.doneF ?_
               refine ⟨k + 1, (by dsimp only; omega), _, (LessS.weak (LessS.upd (LessS.upd (LessS.upd (LessS.upd (LessS.upd (LessS.upd (LessS.upd (LessS.upd (LessS.nil _) rfl) rfl) rfl) rfl) rfl) rfl) rfl) rfl) _), (by omega), _, (congrArg (St.mk _) (effM_eq (Has.cons rfl Has.nil)).symm)⟩
             ·rw [h200]
              skip
              refine GL.guardF rfl ?_
              refine GL.guardF rfl ?_
              refine GL.guardF rfl ?_
              refine GL.guardF rfl ?_
              refine GL.guardF rfl ?_
              refine GL.guardF rfl ?_
              refine GL.guardT rfl ?_
              refine GL.pick I0.mono rfl (by conv => lhs; whnf) ?_
              refine GL.pick I0.mono rfl (by conv => lhs; whnf) ?_
              refine GL.doneF ?_
              refine goOn ?_
              refine Wp.condF rfl ?_
              refine Wp.skipI ?_
              refine blockX.normal ?_
              refine goOn ?_
              refine Wp.regI I0.mono ?_
              refine GL.addR I0.mono rfl rfl (by omega) ?_
              refine GL.move I0.mono (by conv => lhs; whnf) ?_
              refine GL.doneF ?_
              refine ⟨k + 1, (by dsimp only; omega), _, (LessS.weak (LessS.upd (LessS.upd (LessS.upd (LessS.upd (LessS.upd (LessS.upd (LessS.upd (LessS.upd (LessS.nil _) rfl) rfl) rfl) rfl) rfl) rfl) rfl) rfl) _), (by omega), _, (congrArg (St.mk _) (effM_eq (Has.cons rfl Has.nil)).symm)⟩
           ·rw [h185]
            skip
            refine GL.guardF rfl ?_
            refine GL.guardF rfl ?_
            refine GL.guardF rfl ?_
            refine GL.guardF rfl ?_
            refine GL.guardF rfl ?_
            refine GL.guardF rfl ?_
            refine GL.pick I0.mono rfl (by conv => lhs; whnf) ?_
            refine GL.move I0.mono (by conv => lhs; whnf) ?_
            refine GL.guardT rfl ?_
            refine GL.move I0.mono (by conv => lhs; whnf) ?_
            refine GL.guardT rfl ?_
            refine GL.move I0.mono (by conv => lhs; whnf) ?_
            refine GL.guardT rfl ?_
            refine GL.indexAddrF I0.mono (sz := 8) rfl rfl rfl rfl (by omega) (by (rw [em_len]; omega)) (by intro e he; obtain ⟨a, -, rfl⟩ := List.mem_map.1 he; rfl) (by with_reducible exact Int.toNat_natCast _) ?_
            refine GL.guardT rfl ?_
            refine GL.fieldAddrF I0.mono (o := 0) rfl rfl (by conv => lhs; whnf) ?_
            refine GL.guardT rfl ?_
            refine GL.loadF I0.mono rfl rfl (em_get (by omega)) rfl ?_
            refine GL.guardT rfl ?_
            refine GL.un I0.mono rfl ?_
            refine GL.guardT rfl ?_
            refine GL.move I0.mono (by conv => lhs; whnf) ?_
            refine GL.splitAt 200 rfl (fun h200 => ?_) (fun h200 => ?_)
            ·rw [h200]
             skip
             refine GL.guardT rfl ?_
             refine GL.move I0.mono (by conv => lhs; whnf) ?_
             refine GL.guardT rfl ?_
             refine GL.move I0.mono (by conv => lhs; whnf) ?_
             refine GL.guardT rfl ?_
             refine GL.indexAddrF I0.mono (sz := 8) rfl rfl rfl rfl (by omega) (by (rw [em_len]; omega)) (by intro e he; obtain ⟨a, -, rfl⟩ := List.mem_map.1 he; rfl) (by with_reducible exact Int.toNat_natCast _) ?_
             refine GL.guardT rfl ?_
             refine GL.loadFW I0.mono (n := 8) rfl rfl (em_get (by omega)) rfl rfl ?_
             refine GL.guardT rfl ?_
             refine GL.buildS I0.mono (z := [LV.bool false, LV.int .i64 0, LV.int .i64 0, LV.int .i64 0, LV.int .i64 0, LV.int .u32 0, LV.int .u32 0, LV.int .i64 0]) (cs := [_, _, _, _, _, _, _, _]) (n := 8) rfl rfl rfl (EvS.nil) rfl rfl ?_
             refine GL.guardT rfl ?_
             refine GL.neqA I0.mono rfl rfl (tail_eq (TL.getD k default) zeroTl) ?_
             refine GL.guardT rfl ?_
             refine GL.pick I0.mono rfl (by conv => lhs; whnf) ?_
             refine GL.pick I0.mono rfl (by conv => lhs; whnf) ?_
             refine GL.doneF ?_
             refine goOn ?_
             refine Wp.condI rfl (fun h208 => ?_) (fun h208 => ?_)
             ·skip
              (rw [hyk (by rw [nbf h200]; decide)] at h208; simp at h208)
             ·skip
              refine Wp.skipI ?_
              refine blockX.normal ?_
              refine goOn ?_
              refine Wp.regI I0.mono ?_
              refine GL.addR I0.mono rfl rfl (by omega) ?_
              refine GL.move I0.mono (by conv => lhs; whnf) ?_
              refine GL.doneF ?_
              refine ⟨k + 1, (by dsimp only; omega), _, (LessS.weak (LessS.upd (LessS.upd (LessS.upd (LessS.upd (LessS.upd (LessS.upd (LessS.upd (LessS.upd (LessS.nil _) rfl) rfl) rfl) rfl) rfl) rfl) rfl) rfl) _), (by omega), _, (congrArg (St.mk _) (effM_eq (Has.cons rfl Has.nil)).symm)⟩
            ·rw [h200]
             skip
             refine GL.guardF rfl ?_
             refine GL.guardF rfl ?_
             refine GL.guardF rfl ?_
             refine GL.guardF rfl ?_
             refine GL.guardF rfl ?_
             refine GL.guardF rfl ?_
             refine GL.guardT rfl ?_
             refine GL.pick I0.mono rfl (by conv => lhs; whnf) ?_
             refine GL.pick I0.mono rfl (by conv => lhs; whnf) ?_
             refine GL.doneF ?_
             refine goOn ?_
             refine Wp.condF rfl ?_
             refine Wp.skipI ?_
             refine blockX.normal ?_
             refine goOn ?_
             refine Wp.regI I0.mono ?_
             refine GL.addR I0.mono rfl rfl (by omega) ?_
             refine GL.move I0.mono (by conv => lhs; whnf) ?_
             refine GL.doneF ?_
             refine ⟨k + 1, (by dsimp only; omega), _, (LessS.weak (LessS.upd (LessS.upd (LessS.upd (LessS.upd (LessS.upd (LessS.upd (LessS.upd (LessS.upd (LessS.nil _) rfl) rfl) rfl) rfl) rfl) rfl) rfl) rfl) _), (by omega), _, (congrArg (St.mk _) (effM_eq (Has.cons rfl Has.nil)).symm)⟩
        ·rw [h160]
         skip
         refine GL.guardF rfl ?_
         refine GL.guardF rfl ?_
         refine GL.guardF rfl ?_
         refine GL.guardF rfl ?_
         refine GL.guardF rfl ?_
         refine GL.guardF rfl ?_
         refine GL.guardF rfl ?_
         refine GL.guardF rfl ?_
         refine GL.guardF rfl ?_
         refine GL.guardF rfl ?_
         refine GL.guardF rfl ?_
         refine GL.guardF rfl ?_
         refine GL.guardF rfl ?_
         refine GL.guardF rfl ?_
         refine GL.guardF rfl ?_
         refine GL.guardF rfl ?_
         refine GL.guardT rfl ?_
         refine GL.pick I0.mono rfl (by conv => lhs; whnf) ?_
         refine GL.pick I0.mono rfl (by conv => lhs; whnf) ?_
         refine GL.doneF ?_
         refine goOn ?_
         refine Wp.condF rfl ?_
         refine Wp.skipI ?_
         refine goOn ?_
         refine Wp.seqI ?_
         refine Wp.regI I0.mono ?_
         refine GL.move I0.mono (by conv => lhs; whnf) ?_
         refine GL.move I0.mono (by conv => lhs; whnf) ?_
         refine GL.indexAddrF I0.mono (sz := 7) rfl rfl rfl rfl (by omega) (by (rw [em_len]; omega)) (by intro e he; obtain ⟨a, -, rfl⟩ := List.mem_map.1 he; rfl) (by with_reducible exact Int.toNat_natCast _) ?_
         refine GL.fieldAddrF I0.mono (o := 0) rfl rfl (by conv => lhs; whnf) ?_
         refine GL.loadF I0.mono rfl rfl (em_get (by omega)) rfl ?_
         refine GL.un I0.mono rfl ?_
         refine GL.move I0.mono (by conv => lhs; whnf) ?_
         refine GL.splitAt 185 rfl (fun h185 => ?_) (fun h185 => ?_)
         ·rw [h185]
          skip
          refine GL.guardT rfl ?_
          refine GL.move I0.mono (by conv => lhs; whnf) ?_
          refine GL.guardT rfl ?_
          refine GL.move I0.mono (by conv => lhs; whnf) ?_
          refine GL.guardT rfl ?_
          refine GL.indexAddrF I0.mono (sz := 7) rfl rfl rfl rfl (by omega) (by (rw [em_len]; omega)) (by intro e he; obtain ⟨a, -, rfl⟩ := List.mem_map.1 he; rfl) (by with_reducible exact Int.toNat_natCast _) ?_
          refine GL.guardT rfl ?_
          refine GL.loadFW I0.mono (n := 7) rfl rfl (em_get (by omega)) rfl rfl ?_
          refine GL.guardT rfl ?_
          refine GL.buildS I0.mono (z := [LV.bool false, LV.int .i64 0, LV.int .i64 0, LV.int .i64 0, LV.int .u32 0, LV.int .u32 0, LV.int .i64 0]) (cs := [_, _, _, _, _, _, _]) (n := 7) rfl rfl rfl (EvS.nil) rfl rfl ?_
          refine GL.guardT rfl ?_
          refine GL.neqA I0.mono rfl rfl (head_eq (HL.getD k default) zeroH) ?_
          refine GL.pick I0.mono rfl (by conv => lhs; whnf) ?_
          refine GL.move I0.mono (by conv => lhs; whnf) ?_
          refine GL.splitAt 193 rfl (fun h193 => ?_) (fun h193 => ?_)
          ·rw [h193]
           skip
           (rw [hzk (by rw [nbf h185]; decide)] at h193; simp at h193)
          ·rw [h193]
           skip
           refine GL.guardT rfl ?_
           refine GL.move I0.mono (by conv => lhs; whnf) ?_
           refine GL.guardT rfl ?_
           refine GL.move I0.mono (by conv => lhs; whnf) ?_
           refine GL.guardT rfl ?_
           refine GL.indexAddrF I0.mono (sz := 8) rfl rfl rfl rfl (by omega) (by (rw [em_len]; omega)) (by intro e he; obtain ⟨a, -, rfl⟩ := List.mem_map.1 he; rfl) (by with_reducible exact Int.toNat_natCast _) ?_
           refine GL.guardT rfl ?_
           refine GL.fieldAddrF I0.mono (o := 0) rfl rfl (by conv => lhs; whnf) ?_
           refine GL.guardT rfl ?_
           refine GL.loadF I0.mono rfl rfl (em_get (by omega)) rfl ?_
           refine GL.guardT rfl ?_
           refine GL.un I0.mono rfl ?_
           refine GL.guardT rfl ?_
           refine GL.move I0.mono (by conv => lhs; whnf) ?_
           refine GL.splitAt 200 rfl (fun h200 => ?_) (fun h200 => ?_)
           ·rw [h200]
            skip
            refine GL.guardT rfl ?_
            refine GL.move I0.mono (by conv => lhs; whnf) ?_
            refine GL.guardT rfl ?_
            refine GL.move I0.mono (by conv => lhs; whnf) ?_
            refine GL.guardT rfl ?_
            refine GL.indexAddrF I0.mono (sz := 8) rfl rfl rfl rfl (by omega) (by (rw [em_len]; omega)) (by intro e he; obtain ⟨a, -, rfl⟩ := List.mem_map.1 he; rfl) (by with_reducible exact Int.toNat_natCast _) ?_
            refine GL.guardT rfl ?_
            refine GL.loadFW I0.mono (n := 8) rfl rfl (em_get (by omega)) rfl rfl ?_
            refine GL.guardT rfl ?_
            refine GL.buildS I0.mono (z := [LV.bool false, LV.int .i64 0, LV.int .i64 0, LV.int .i64 0, LV.int .i64 0, LV.int .u32 0, LV.int .u32 0, LV.int .i64 0]) (cs := [_, _, _, _, _, _, _, _]) (n := 8) rfl rfl rfl (EvS.nil) rfl rfl ?_
            refine GL.guardT rfl ?_
            refine GL.neqA I0.mono rfl rfl (tail_eq (TL.getD k default) zeroTl) ?_
            refine GL.guardT rfl ?_
            refine GL.pick I0.mono rfl (by conv => lhs; whnf) ?_
            refine GL.pick I0.mono rfl (by conv => lhs; whnf) ?_
            refine GL.doneF ?_
            refine goOn ?_
            refine Wp.condI rfl (fun h208 => ?_) (fun h208 => ?_)
            ·skip
             (rw [hyk (by rw [nbf h200]; decide)] at h208; simp at h208)
            ·skip
             refine Wp.skipI ?_
             refine blockX.normal ?_
             refine goOn ?_
             refine Wp.regI I0.mono ?_
             refine GL.addR I0.mono rfl rfl (by omega) ?_
             refine GL.move I0.mono (by conv => lhs; whnf) ?_
             refine GL.doneF ?_
             refine ⟨k + 1, (by dsimp only; omega), _, (LessS.weak (LessS.upd (LessS.upd (LessS.upd (LessS.upd (LessS.upd (LessS.upd (LessS.upd (LessS.upd (LessS.nil _) rfl) rfl) rfl) rfl) rfl) rfl) rfl) rfl) _), (by omega), _, (congrArg (St.mk _) (effM_eq (Has.cons rfl Has.nil)).symm)⟩
           ·rw [h200]
            skip
            refine GL.guardF rfl ?_
            refine GL.guardF rfl ?_
            refine GL.guardF rfl ?_
            refine GL.guardF rfl ?_
            refine GL.guardF rfl ?_
            refine GL.guardF rfl ?_
            refine GL.guardT rfl ?_
            refine GL.pick I0.mono rfl (by conv => lhs; whnf) ?_
            refine GL.pick I0.mono rfl (by conv => lhs; whnf) ?_
            refine GL.doneF ?_
            refine goOn ?_
            refine Wp.condF rfl ?_
            refine Wp.skipI ?_
            refine blockX.normal ?_
            refine goOn ?_
            refine Wp.regI I0.mono ?_
            refine GL.addR I0.mono rfl rfl (by omega) ?_
            refine GL.move I0.mono (by conv => lhs; whnf) ?_
            refine GL.doneF ?_
            refine ⟨k + 1, (by dsimp only; omega), _, (LessS.weak (LessS.upd (LessS.upd (LessS.upd (LessS.upd (LessS.upd (LessS.upd (LessS.upd (LessS.upd (LessS.nil _) rfl) rfl) rfl) rfl) rfl) rfl) rfl) rfl) _), (by omega), _, (congrArg (St.mk _) (effM_eq (Has.cons rfl Has.nil)).symm)⟩
         ·rw [h185]
          skip
          refine GL.guardF rfl ?_
          refine GL.guardF rfl ?_
          refine GL.guardF rfl ?_
          refine GL.guardF rfl ?_
          refine GL.guardF rfl ?_
          refine GL.guardF rfl ?_
          refine GL.pick I0.mono rfl (by conv => lhs; whnf) ?_
          refine GL.move I0.mono (by conv => lhs; whnf) ?_
          refine GL.guardT rfl ?_
          refine GL.move I0.mono (by conv => lhs; whnf) ?_
          refine GL.guardT rfl ?_
          refine GL.move I0.mono (by conv => lhs; whnf) ?_
          refine GL.guardT rfl ?_
          refine GL.indexAddrF I0.mono (sz := 8) rfl rfl rfl rfl (by omega) (by (rw [em_len]; omega)) (by intro e he; obtain ⟨a, -, rfl⟩ := List.mem_map.1 he; rfl) (by with_reducible exact Int.toNat_natCast _) ?_
          refine GL.guardT rfl ?_
          refine GL.fieldAddrF I0.mono (o := 0) rfl rfl (by conv => lhs; whnf) ?_
          refine GL.guardT rfl ?_
          refine GL.loadF I0.mono rfl rfl (em_get (by omega)) rfl ?_
          refine GL.guardT rfl ?_
          refine GL.un I0.mono rfl ?_
          refine GL.guardT rfl ?_
          refine GL.move I0.mono (by conv => lhs; whnf) ?_
          refine GL.splitAt 200 rfl (fun h200 => ?_) (fun h200 => ?_)
          ·rw [h200]
           skip
           refine GL.guardT rfl ?_
           refine GL.move I0.mono (by conv => lhs; whnf) ?_
           refine GL.guardT rfl ?_
           refine GL.move I0.mono (by conv => lhs; whnf) ?_
           refine GL.guardT rfl ?_
           refine GL.indexAddrF I0.mono (sz := 8) rfl rfl rfl rfl (by omega) (by (rw [em_len]; omega)) (by intro e he; obtain ⟨a, -, rfl⟩ := List.mem_map.1 he; rfl) (by with_reducible exact Int.toNat_natCast _) ?_
           refine GL.guardT rfl ?_
           refine GL.loadFW I0.mono (n := 8) rfl rfl (em_get (by omega)) rfl rfl ?_
           refine GL.guardT rfl ?_
           refine GL.buildS I0.mono (z := [LV.bool false, LV.int .i64 0, LV.int .i64 0, LV.int .i64 0, LV.int .i64 0, LV.int .u32 0, LV.int .u32 0, LV.int .i64 0]) (cs := [_, _, _, _, _, _, _, _]) (n := 8) rfl rfl rfl (EvS.nil) rfl rfl ?_
           refine GL.guardT rfl ?_
           refine GL.neqA I0.mono rfl rfl (tail_eq (TL.getD k default) zeroTl) ?_
           refine GL.guardT rfl ?_
           refine GL.pick I0.mono rfl (by conv => lhs; whnf) ?_
           refine GL.pick I0.mono rfl (by conv => lhs; whnf) ?_
           refine GL.doneF ?_
           refine goOn ?_
           refine Wp.condI rfl (fun h208 => ?_) (fun h208 => ?_)
           ·skip
            (rw [hyk (by rw [nbf h200]; decide)] at h208; simp at h208)
           ·skip
            refine Wp.skipI ?_
            refine blockX.normal ?_
            refine goOn ?_
            refine Wp.regI I0.mono ?_
            refine GL.addR I0.mono rfl rfl (by omega) ?_
            refine GL.move I0.mono (by conv => lhs; whnf) ?_
            refine GL.doneF ?_
            refine ⟨k + 1, (by dsimp only; omega), _, (LessS.weak (LessS.upd (LessS.upd (LessS.upd (LessS.upd (LessS.upd (LessS.upd (LessS.upd (LessS.upd (LessS.nil _) rfl) rfl) rfl) rfl) rfl) rfl) rfl) rfl) _), (by omega), _, (congrArg (St.mk _) (effM_eq (Has.cons rfl Has.nil)).symm)⟩
          ·rw [h200]
           skip
           refine GL.guardF rfl ?_
           refine GL.guardF rfl ?_
           refine GL.guardF rfl ?_
           refine GL.guardF rfl ?_
           refine GL.guardF rfl ?_
           refine GL.guardF rfl ?_
           refine GL.guardT rfl ?_
           refine GL.pick I0.mono rfl (by conv => lhs; whnf) ?_
           refine GL.pick I0.mono rfl (by conv => lhs; whnf) ?_
           refine GL.doneF ?_
           refine goOn ?_
           refine Wp.condF rfl ?_
           refine Wp.skipI ?_
           refine blockX.normal ?_
           refine goOn ?_
           refine Wp.regI I0.mono ?_
           refine GL.addR I0.mono rfl rfl (by omega) ?_
           refine GL.move I0.mono (by conv => lhs; whnf) ?_
           refine GL.doneF ?_
           refine ⟨k + 1, (by dsimp only; omega), _, (LessS.weak (LessS.upd (LessS.upd (LessS.upd (LessS.upd (LessS.upd (LessS.upd (LessS.upd (LessS.upd (LessS.nil _) rfl) rfl) rfl) rfl) rfl) rfl) rfl) rfl) _), (by omega), _, (congrArg (St.mk _) (effM_eq (Has.cons rfl Has.nil)).symm)⟩
    ·replace h57 := of_decide_eq_false h57
     refine Wp.exitI ?_
     refine thenX.exit ?_
     refine thenX.exit ?_
     refine blockX.out ?_
     refine goOn ?_
     refine Wp.seqI ?_
     refine Wp.regI I0.mono ?_
     refine GL.call0 I0.mono rfl (Frz.aggn) (wakes5_ok) rfl rfl (fun _ => rfl) ?_
     refine GL.assign I0.mono (by conv => lhs; whnf) ?_
     refine GL.doneF ?_
     refine goOn ?_
     refine Wp.retI ?_
     refine RetX.ret ?_
     refine ⟨_, _, _, _, .cons (.tmp rfl) .nil, .frz (.pure rfl), List.nodup_nil, by simp, ?_⟩
     rfl


theorem law_TabSets (z0 : List Int) (h0 : Ints z0) (z1 : List Int) (h1 : Ints z1) (n : Int) : CallsV Try.prog 14 [.sl (em ni z0), .sl (em ni z1), .int .i64 n] (.bool true) := by
  have hb := inst_sb z0
  have hp := inst_sp z0
  have hsd := inst_sd z0
  have ht := tb_inst hb hsd
  have hci := within_in (a := n) (n := (instOf z0).cars.length) (by have := hb.sq.cars0; omega)
  have hr := row_short (instOf z0) z1
  have hT : isT (instOf z0) (within n (instOf z0).cars.length) 0 = true := isT_mk ⟨hci.1, hci.2, by omega, by omega⟩
  have e1 := heads_ok (instOf z0) ht (within n (instOf z0).cars.length) (rowOf (instOf z0) z1) (by unfold Short; omega)
  have e2 := tails_ok (instOf z0) ht (within n (instOf z0).cars.length) (rowOf (instOf z0) z1) (by unfold Short; omega)
  rw [heads, if_pos hT] at e1
  rw [tails, if_pos hT] at e2
  refine ts_walk z0 z1 n (instOf z0) (nStops z0) hb hsd (inst_ok z0 h0) _ (row_ok _ hb.sq.short z1 h1) hr _ rfl _ _ e1 e2 (headsK_len _ _ _ _) (tailsK_len _ _ _ _) (fun k hk h => ?_) (fun k hk h => ?_) (fun k hk h => ?_) fun k hk h => ?_
  · rw [headsK_get _ _ _ hk] at h ⊢
    exact head_sets hb hp hsd hci.1 hci.2 (by omega) hk h
  · rw [tailsK_get _ _ _ hk, if_neg (Nat.not_lt_zero _)] at h ⊢
    exact tail_sets hb hp hsd h
  · rw [headsK_get _ _ _ hk] at h ⊢
    exact head_zero k hk h
  · rw [tailsK_get _ _ _ hk, if_neg (Nat.not_lt_zero _)] at h ⊢
    exact tail_zero _ h

end Go.Proofs.Ytpepcfombibpeaa
