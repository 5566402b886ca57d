/- The cost of the reference, and the law of what is told of a trip, walked. -/
import Derived.Test.YtpepcfombibpeaaFc
import Derived.Test.YtpepcfombibpeaaFg
import Derived.Test.YtpepcfombibpeaaFk
import Derived.KernelRfl
set_option linter.unusedVariables false
set_option linter.unusedSimpArgs false
namespace Go.Proofs.Ytpepcfombibpeaa
open Go.Proofs Mv


theorem cost_none {I : Inst} {r : List Int} {k : Nat} (hk : k < r.length) (h : isStop I (r.getD k default) = false) : cost I r = 0 := by
  refine cost_bad I r 0 0 ⟨r.getD k default, ?_, h⟩
  rw [List.getD_eq_getElem?_getD, List.getElem?_eq_getElem hk]
  exact List.getElem_mem hk
theorem cost_at {I : Inst} {N : Nat} (hq : Sq I N) {r : List Int} (hrl : r.length ≤ 1000) {k : Nat} (hk : k ≤ r.length) (hv : ∀ j, j < k → isStop I (r.getD j default) = true) :
    0 ≤ lastOf 0 (r.take k) ∧ lastOf 0 (r.take k) ≤ N ∧ 0 ≤ legs I 0 (r.take k) ∧ legs I 0 (r.take k) ≤ 14000 ∧ (I.travel.getD (lastOf 0 (r.take k)).toNat default).length = N + 1 ∧ costGo I 0 0 (r.take k) = legs I 0 (r.take k) + Mv.cell I (lastOf 0 (r.take k)) 0 := by
  have hst := hq.stops
  have hvt : ∀ x ∈ r.take k, isStop I x = true := fun x hx => by
    obtain ⟨j, hj, rfl⟩ := List.getElem_of_mem hx
    have hjk : j < k := by simp at hj; omega
    have := hv j hjk
    rw [List.getElem_take]
    rwa [List.getD_eq_getElem?_getD, List.getElem?_eq_getElem (by omega)] at this
  have h1 := lastOf_in (r.take k) 0 hvt (by omega) (by omega)
  have h2 := legs_in hq (r.take k) 0 (by omega) (by omega) hvt
  have h3 : (r.take k).length ≤ 1000 := by simp; omega
  have h4 := costGo_legs hq (r.take k) 0 0 (by omega) (by omega) (by omega) (by omega) hvt
  exact ⟨h1.1, by omega, h2.1, by omega, hq.row _ (by omega), by omega⟩

set_option maxRecDepth 100000 in
set_option maxHeartbeats 4000000 in
theorem rcost_ok (I : Inst) (N : Nat) (hq : Sq I N) (r : List Int) (hrl : r.length ≤ 1000) : CallsV Try.prog 33 [ei I, .sl (em ni r)] (.int .i64 (cost I r)) := by
  refine CallsR.intro (I0.sound _) mix Try.func33 rfl rfl (by simp [Try.f33]) (by kernel_rfl) (nb := 0) ?_
  unfold Try.f33
  refine Wp.seqI ?_
  refine Wp.regI I0.mono ?_
  refine GL.box I0.mono (by conv => lhs; whnf) rfl (n := 4) rfl rfl ?_
  intro g2
  refine GL.assign I0.mono (by conv => lhs; whnf) ?_
  refine GL.doneF ?_
  refine goOn ?_
  refine Wp.seqI ?_
  refine Wp.regI I0.mono ?_
  refine GL.assign I0.mono (by conv => lhs; whnf) ?_
  refine GL.assign I0.mono (by conv => lhs; whnf) ?_
  refine GL.doneF ?_
  refine goOn ?_
  refine Wp.seqI ?_
  refine Wp.seqI ?_
  refine Wp.regI I0.mono ?_
  refine GL.move I0.mono (by conv => lhs; whnf) ?_
  first | refine GL.lenF I0.mono rfl rfl (em_len _ _) ?_ | refine GL.lenO I0.mono rfl rfl rfl rfl ?_ | refine GL.lenN I0.mono rfl rfl ?_
  refine GL.move I0.mono (by conv => lhs; whnf) ?_
  refine GL.doneF ?_
  refine goOn ?_
  refine Wp.blockI ?_
  refine Wp.loopI I0.mono (α := Nat) (fun k st => (k ≤ r.length ∧ ∀ j, j < k → isStop I (r.getD j default) = true) ∧ ∃ m0, st = ⟨(updS (updS (updS (updS (updS (updS (updS (updS (fun _ => LV.undef) 1 (.sl (em ni r))) 2 (.ref 128 g2 0 0)) 4 (.int .i64 0)) 5 (.int .i64 (legs I 0 (r.take k)))) 6 (.int .i64 (lastOf 0 (r.take k)))) 9 (.sl (em ni r))) 10 (.int .i64 (r.length : Int))) 11 (.int .i64 (k : Int))), effM m0 [(128, ⟨g2, false, .var, 4, [ic I]⟩)]⟩) (fun k => r.length - k) 0 ⟨_, (LessS.weak (LessS.upd (LessS.upd (LessS.upd (LessS.upd (LessS.upd (LessS.upd (LessS.upd (LessS.upd (LessS.nil _) rfl) rfl) rfl) rfl) rfl) rfl) rfl) rfl) _), ⟨Nat.zero_le _, fun j h => absurd h (Nat.not_lt_zero _)⟩, _, (congrArg (St.mk _) (effM_eq (Has.cons rfl Has.nil)).symm)⟩ ?_
  rintro k _ ⟨⟨hi, hv⟩, m0, rfl⟩
  obtain ⟨q1, q2, q3, q4, q5, q6⟩ := cost_at hq hrl hi hv
  have hN := hq.high
  have hS := hq.stops
  have hTr := hq.travel
  refine Wp.seqI ?_
  refine Wp.regI I0.mono ?_
  refine GL.bin I0.mono rfl ?_
  refine GL.doneF ?_
  refine goOn ?_
  refine Wp.seqI ?_
  refine Wp.condI rfl (fun h12 => ?_) (fun h12 => ?_)
  · first | replace h12 := of_decide_eq_true h12 | replace h12 := bne_true h12 | skip
    refine Wp.skipI ?_
    refine goOn ?_
    refine Wp.seqI ?_
    refine Wp.blockI ?_
    refine Wp.seqI ?_
    refine Wp.regI I0.mono ?_
    first | refine GL.indexAddrF I0.mono (sz := 1) rfl rfl rfl rfl (by omega) (by first | omega | (rw [em_len]; omega)) (by intro e he; obtain ⟨a, -, rfl⟩ := List.mem_map.1 he; rfl) (by first | with_reducible exact Int.toNat_natCast _ | rfl) ?_ | refine GL.indexAddr I0.mono (sz := 1) rfl rfl rfl rfl rfl rfl rfl rfl (by omega) (by first | omega | (rw [em_len]; omega)) (by first | (conv => lhs; simp only [Nat.zero_add, Int.toNat_natCast]) | rfl) ?_
    first | refine GL.load I0.mono rfl rfl rfl rfl (by simp) rfl rfl ?_ | refine GL.loadF I0.mono rfl rfl (em_get (by omega)) rfl ?_
    refine GL.assign I0.mono (by conv => lhs; whnf) ?_
    refine GL.doneF ?_
    refine goOn ?_
    refine Wp.seqI ?_
    refine Wp.seqI ?_
    refine Wp.regI I0.mono ?_
    refine GL.move I0.mono (by conv => lhs; whnf) ?_
    first | refine GL.fieldAddr I0.mono (o := 1) rfl rfl rfl rfl (by conv => lhs; whnf) ?_ | refine GL.fieldAddrF I0.mono (o := 1) rfl rfl (by conv => lhs; whnf) ?_
    first | refine GL.load I0.mono rfl rfl rfl rfl (by simp) rfl rfl ?_ | refine GL.loadF I0.mono rfl rfl (em_get (by omega)) rfl ?_
    first | refine GL.lenF I0.mono rfl rfl (em_len _ _) ?_ | refine GL.lenO I0.mono rfl rfl rfl rfl ?_ | refine GL.lenN I0.mono rfl rfl ?_
    refine GL.call0 I0.mono rfl (Frz.aggc (by first | exact Frz.pure rfl | exact Frz.pures rfl | exact Frz.nils | exact Frz.whole rfl rfl rfl rfl (by first | exact em_len _ _ | (rw [em_len]; omega)) | exact (Frz.aggc (by first | exact Frz.pure rfl | exact Frz.nils | exact Frz.whole rfl rfl rfl rfl (by first | exact em_len _ _ | (rw [em_len]; omega))) (Frz.aggc (by first | exact Frz.pure rfl | exact Frz.nils | exact Frz.whole rfl rfl rfl rfl (by first | exact em_len _ _ | (rw [em_len]; omega))) (Frz.aggc (by first | exact Frz.pure rfl | exact Frz.nils | exact Frz.whole rfl rfl rfl rfl (by first | exact em_len _ _ | (rw [em_len]; omega))) (Frz.aggc (by first | exact Frz.pure rfl | exact Frz.nils | exact Frz.whole rfl rfl rfl rfl (by first | exact em_len _ _ | (rw [em_len]; omega))) Frz.aggn))))) (Frz.aggc (by first | exact Frz.pure rfl | exact Frz.pures rfl | exact Frz.nils | exact Frz.whole rfl rfl rfl rfl (by first | exact em_len _ _ | (rw [em_len]; omega)) | exact (Frz.aggc (by first | exact Frz.pure rfl | exact Frz.nils | exact Frz.whole rfl rfl rfl rfl (by first | exact em_len _ _ | (rw [em_len]; omega))) (Frz.aggc (by first | exact Frz.pure rfl | exact Frz.nils | exact Frz.whole rfl rfl rfl rfl (by first | exact em_len _ _ | (rw [em_len]; omega))) (Frz.aggc (by first | exact Frz.pure rfl | exact Frz.nils | exact Frz.whole rfl rfl rfl rfl (by first | exact em_len _ _ | (rw [em_len]; omega))) (Frz.aggc (by first | exact Frz.pure rfl | exact Frz.nils | exact Frz.whole rfl rfl rfl rfl (by first | exact em_len _ _ | (rw [em_len]; omega))) Frz.aggn))))) (Frz.aggc (by first | exact Frz.pure rfl | exact Frz.pures rfl | exact Frz.nils | exact Frz.whole rfl rfl rfl rfl (by first | exact em_len _ _ | (rw [em_len]; omega)) | exact (Frz.aggc (by first | exact Frz.pure rfl | exact Frz.nils | exact Frz.whole rfl rfl rfl rfl (by first | exact em_len _ _ | (rw [em_len]; omega))) (Frz.aggc (by first | exact Frz.pure rfl | exact Frz.nils | exact Frz.whole rfl rfl rfl rfl (by first | exact em_len _ _ | (rw [em_len]; omega))) (Frz.aggc (by first | exact Frz.pure rfl | exact Frz.nils | exact Frz.whole rfl rfl rfl rfl (by first | exact em_len _ _ | (rw [em_len]; omega))) (Frz.aggc (by first | exact Frz.pure rfl | exact Frz.nils | exact Frz.whole rfl rfl rfl rfl (by first | exact em_len _ _ | (rw [em_len]; omega))) Frz.aggn))))) (Frz.aggn)))) (between_ok _ _ _) rfl rfl (fun _ => rfl) ?_
    refine GL.un I0.mono rfl ?_
    refine GL.doneF ?_
    refine goOn ?_
    refine Wp.condI rfl (fun h20 => ?_) (fun h20 => ?_)
    · first | replace h20 := of_decide_eq_true h20 | replace h20 := bne_true h20 | skip
      refine Wp.seqI ?_
      refine Wp.regI I0.mono ?_
      refine GL.assign I0.mono (by conv => lhs; whnf) ?_
      refine GL.doneF ?_
      refine goOn ?_
      refine Wp.retI ?_
      refine thenX.ret ?_
      refine blockX.ret ?_
      refine thenX.ret ?_
      refine thenX.ret ?_
      refine blockX.ret ?_
      refine thenX.ret ?_
      refine RetX.ret ?_
      refine ⟨_, _, _, _, .cons (.tmp rfl) .nil, .frz (.pure rfl), List.nodup_nil, by simp, ?_⟩
      first
      | exact congrArg (LV.int .i64) (cost_none (k := k) (by omega) (nb_f h20)).symm
      | exact congrArg (LV.int .i64) (hz (by omega)).symm
      | exact congrArg (LV.int .i64) q6.symm
    · first | replace h20 := of_decide_eq_false h20 | replace h20 := bne_false h20 | skip
      have hx := nb_t h20
      have hx2 := isStop_le (i := I) hx
      have q7 := hq.cell_in q1 q2 (b := r.getD k default) (by omega) (by omega)
      have d9 := lastOf_take r 0 k (by omega)
      have d10 := legs_take I r 0 k (by omega)
      unfold Mv.cell at q7 d10
      refine Wp.skipI ?_
      refine goOn ?_
      refine Wp.regI I0.mono ?_
      refine GL.move I0.mono (by conv => lhs; whnf) ?_
      first | refine GL.fieldAddr I0.mono (o := 3) rfl rfl rfl rfl (by conv => lhs; whnf) ?_ | refine GL.fieldAddrF I0.mono (o := 3) rfl rfl (by conv => lhs; whnf) ?_
      first | refine GL.load I0.mono rfl rfl rfl rfl (by simp) rfl rfl ?_ | refine GL.loadF I0.mono rfl rfl (em_get (by omega)) rfl ?_
      refine GL.move I0.mono (by conv => lhs; whnf) ?_
      first | refine GL.indexAddrF I0.mono (sz := 1) rfl rfl rfl rfl (by omega) (by first | omega | (rw [em_len]; omega)) (by intro e he; obtain ⟨a, -, rfl⟩ := List.mem_map.1 he; rfl) (by first | with_reducible exact Int.toNat_natCast _ | rfl) ?_ | refine GL.indexAddr I0.mono (sz := 1) rfl rfl rfl rfl rfl rfl rfl rfl (by omega) (by first | omega | (rw [em_len]; omega)) (by first | (conv => lhs; simp only [Nat.zero_add, Int.toNat_natCast]) | rfl) ?_
      first | refine GL.load I0.mono rfl rfl rfl rfl (by simp) rfl rfl ?_ | refine GL.loadF I0.mono rfl rfl (em_get (by omega)) rfl ?_
      refine GL.move I0.mono (by conv => lhs; whnf) ?_
      first | refine GL.indexAddrF I0.mono (sz := 1) rfl rfl rfl rfl (by omega) (by first | omega | (rw [em_len]; omega)) (by intro e he; obtain ⟨a, -, rfl⟩ := List.mem_map.1 he; rfl) (by first | with_reducible exact Int.toNat_natCast _ | rfl) ?_ | refine GL.indexAddr I0.mono (sz := 1) rfl rfl rfl rfl rfl rfl rfl rfl (by omega) (by first | omega | (rw [em_len]; omega)) (by first | (conv => lhs; simp only [Nat.zero_add, Int.toNat_natCast]) | rfl) ?_
      first | refine GL.load I0.mono rfl rfl rfl rfl (by simp) rfl rfl ?_ | refine GL.loadF I0.mono rfl rfl (em_get (by omega)) rfl ?_
      first | refine GL.addR I0.mono rfl rfl (by first | omega | assumption) ?_ | refine GL.bin I0.mono rfl ?_
      refine GL.move I0.mono (by conv => lhs; whnf) ?_
      refine GL.assign I0.mono (by conv => lhs; whnf) ?_
      refine GL.assign I0.mono (by conv => lhs; whnf) ?_
      refine GL.doneF ?_
      refine blockX.normal ?_
      refine goOn ?_
      refine Wp.regI I0.mono ?_
      first | refine GL.addR I0.mono rfl rfl (by first | omega | assumption) ?_ | refine GL.bin I0.mono rfl ?_
      refine GL.move I0.mono (by conv => lhs; whnf) ?_
      refine GL.doneF ?_
      refine ⟨k + 1, (by dsimp only; omega), _, (LessS.weak (LessS.upd (LessS.upd (LessS.upd (LessS.upd (LessS.upd (LessS.upd (LessS.upd (LessS.upd (LessS.nil _) rfl) rfl) rfl) (congrArg (LV.int .i64) d10.symm)) (congrArg (LV.int .i64) d9.symm)) rfl) rfl) rfl) _), ⟨by omega, all_snoc hv hx⟩, _, (congrArg (St.mk _) (effM_eq (Has.cons rfl Has.nil)).symm)⟩
  · first | replace h12 := of_decide_eq_false h12 | replace h12 := bne_false h12 | skip
    obtain rfl : k = r.length := by omega
    rw [List.take_length] at q1 q2 q3 q4 q5 q6
    rw [List.take_length]
    have q7 := hq.cell_in q1 q2 (b := 0) (by omega) (by omega)
    have hz : r.length = 0 → cost I r = 0 := fun h => by have := List.eq_nil_of_length_eq_zero h; subst this; have e1 : cost I [] = legs I 0 [] + Mv.cell I (lastOf 0 []) 0 := q6; have e2 : Mv.cell I (lastOf 0 []) 0 = 0 := hq.diag 0 (by omega); have e3 : legs I 0 [] = 0 := rfl; omega
    unfold Mv.cell at q6 q7
    refine Wp.exitI ?_
    refine thenX.exit ?_
    refine thenX.exit ?_
    refine blockX.out ?_
    refine goOn ?_
    refine Wp.seqI ?_
    refine Wp.seqI ?_
    refine Wp.regI I0.mono ?_
    refine GL.move I0.mono (by conv => lhs; whnf) ?_
    first | refine GL.lenF I0.mono rfl rfl (em_len _ _) ?_ | refine GL.lenO I0.mono rfl rfl rfl rfl ?_ | refine GL.lenN I0.mono rfl rfl ?_
    refine GL.bin I0.mono rfl ?_
    refine GL.doneF ?_
    refine goOn ?_
    refine Wp.condI rfl (fun h35 => ?_) (fun h35 => ?_)
    · first | replace h35 := of_decide_eq_true h35 | replace h35 := bne_true h35 | skip
      refine Wp.seqI ?_
      refine Wp.regI I0.mono ?_
      refine GL.assign I0.mono (by conv => lhs; whnf) ?_
      refine GL.doneF ?_
      refine goOn ?_
      refine Wp.retI ?_
      refine thenX.ret ?_
      refine RetX.ret ?_
      refine ⟨_, _, _, _, .cons (.tmp rfl) .nil, .frz (.pure rfl), List.nodup_nil, by simp, ?_⟩
      first
      | exact congrArg (LV.int .i64) (cost_none (k := k) (by omega) (nb_f h20)).symm
      | exact congrArg (LV.int .i64) (hz (by omega)).symm
      | exact congrArg (LV.int .i64) q6.symm
    · first | replace h35 := of_decide_eq_false h35 | replace h35 := bne_false h35 | skip
      refine Wp.skipI ?_
      refine goOn ?_
      refine Wp.seqI ?_
      refine Wp.regI I0.mono ?_
      refine GL.move I0.mono (by conv => lhs; whnf) ?_
      first | refine GL.fieldAddr I0.mono (o := 3) rfl rfl rfl rfl (by conv => lhs; whnf) ?_ | refine GL.fieldAddrF I0.mono (o := 3) rfl rfl (by conv => lhs; whnf) ?_
      first | refine GL.load I0.mono rfl rfl rfl rfl (by simp) rfl rfl ?_ | refine GL.loadF I0.mono rfl rfl (em_get (by omega)) rfl ?_
      refine GL.move I0.mono (by conv => lhs; whnf) ?_
      first | refine GL.indexAddrF I0.mono (sz := 1) rfl rfl rfl rfl (by omega) (by first | omega | (rw [em_len]; omega)) (by intro e he; obtain ⟨a, -, rfl⟩ := List.mem_map.1 he; rfl) (by first | with_reducible exact Int.toNat_natCast _ | rfl) ?_ | refine GL.indexAddr I0.mono (sz := 1) rfl rfl rfl rfl rfl rfl rfl rfl (by omega) (by first | omega | (rw [em_len]; omega)) (by first | (conv => lhs; simp only [Nat.zero_add, Int.toNat_natCast]) | rfl) ?_
      first | refine GL.load I0.mono rfl rfl rfl rfl (by simp) rfl rfl ?_ | refine GL.loadF I0.mono rfl rfl (em_get (by omega)) rfl ?_
      first | refine GL.indexAddrF I0.mono (sz := 1) rfl rfl rfl rfl (by omega) (by first | omega | (rw [em_len]; omega)) (by intro e he; obtain ⟨a, -, rfl⟩ := List.mem_map.1 he; rfl) (by first | with_reducible exact Int.toNat_natCast _ | rfl) ?_ | refine GL.indexAddr I0.mono (sz := 1) rfl rfl rfl rfl rfl rfl rfl rfl (by omega) (by first | omega | (rw [em_len]; omega)) (by first | (conv => lhs; simp only [Nat.zero_add, Int.toNat_natCast]) | rfl) ?_
      first | refine GL.load I0.mono rfl rfl rfl rfl (by simp) rfl rfl ?_ | refine GL.loadF I0.mono rfl rfl (em_get (by omega)) rfl ?_
      first | refine GL.addR I0.mono rfl rfl (by first | omega | assumption) ?_ | refine GL.bin I0.mono rfl ?_
      refine GL.assign I0.mono (by conv => lhs; whnf) ?_
      refine GL.doneF ?_
      refine goOn ?_
      refine Wp.retI ?_
      refine RetX.ret ?_
      refine ⟨_, _, _, _, .cons (.tmp rfl) .nil, .frz (.pure rfl), List.nodup_nil, by simp, ?_⟩
      first
      | exact congrArg (LV.int .i64) (cost_none (k := k) (by omega) (nb_f h20)).symm
      | exact congrArg (LV.int .i64) (hz (by omega)).symm
      | exact congrArg (LV.int .i64) q6.symm

set_option maxRecDepth 100000 in
set_option maxHeartbeats 4000000 in
theorem tt_walk (z0 z1 : List Int) (n : Int) (I : Inst) (N : Nat) (hb : Sb I N) (hp : Sp I) (hI : CallsV Try.prog 29 [.sl (em ni z0)] (ei I)) (r : List Int) (hr : CallsV Try.prog 30 [ei I, .sl (em ni z1)] (.sl (em ni r))) (hrl : r.length ≤ 14) : CallsV Try.prog 5 [.sl (em ni z0), .sl (em ni z1), .int .i64 n] (.bool true) := by
  refine CallsR.intro (I0.sound _) mix Try.func5 rfl rfl (by simp [Try.f5]) (by kernel_rfl) (nb := 0) ?_
  unfold Try.f5
  refine Wp.seqI ?_
  refine Wp.regI I0.mono ?_
  refine GL.assign I0.mono (by conv => lhs; whnf) ?_
  refine GL.doneF ?_
  refine goOn ?_
  refine Wp.seqI ?_
  refine Wp.regI I0.mono ?_
  refine GL.move I0.mono (by conv => lhs; whnf) ?_
  refine GL.call0 I0.mono rfl (Frz.aggc (by first | exact Frz.pure rfl | exact Frz.pures rfl | exact Frz.nils | exact Frz.whole rfl rfl rfl rfl (by first | exact em_len _ _ | (rw [em_len]; omega)) | exact (Frz.aggc (by first | exact Frz.pure rfl | exact Frz.nils | exact Frz.whole rfl rfl rfl rfl (by first | exact em_len _ _ | (rw [em_len]; omega))) (Frz.aggc (by first | exact Frz.pure rfl | exact Frz.nils | exact Frz.whole rfl rfl rfl rfl (by first | exact em_len _ _ | (rw [em_len]; omega))) (Frz.aggc (by first | exact Frz.pure rfl | exact Frz.nils | exact Frz.whole rfl rfl rfl rfl (by first | exact em_len _ _ | (rw [em_len]; omega))) (Frz.aggc (by first | exact Frz.pure rfl | exact Frz.nils | exact Frz.whole rfl rfl rfl rfl (by first | exact em_len _ _ | (rw [em_len]; omega))) Frz.aggn))))) (Frz.aggn)) (hI) rfl rfl (fun _ => rfl) ?_
  refine GL.alloc I0.mono (cs := [LV.nils, LV.nils, LV.nils, LV.nils]) rfl rfl ?_
  intro g7
  refine GL.store I0.mono (n := 4) rfl rfl rfl rfl rfl rfl rfl rfl rfl rfl (Nat.le_of_ble_eq_true rfl) (by first | (conv => lhs; simp only [List.take_succ_cons, List.take_zero, List.drop_succ_cons, List.drop_zero, List.nil_append, List.cons_append, List.drop_nil, List.append_nil, List.take_nil, List.set_cons_zero, List.set_cons_succ, Nat.zero_add, ni, nr, nc, ns, np, ic, nt, ei, cellsL]) | rfl) (by first | (conv => lhs; simp only [List.take_succ_cons, List.take_zero, List.drop_succ_cons, List.drop_zero, List.nil_append, List.cons_append, List.drop_nil, List.append_nil, List.take_nil, List.set_cons_zero, List.set_cons_succ, Nat.zero_add, ni, nr, nc, ns, np, ic, nt, ei, cellsL]) | rfl) ?_
  refine GL.doneF ?_
  refine goOn ?_
  refine Wp.seqI ?_
  refine Wp.seqI ?_
  refine Wp.regI I0.mono ?_
  refine GL.move I0.mono (by conv => lhs; whnf) ?_
  refine GL.remR I0.mono rfl rfl (by first | decide | omega | assumption) ?_
  refine GL.bin I0.mono rfl ?_
  refine GL.doneF ?_
  refine goOn ?_
  refine Wp.condI rfl (fun h17 => ?_) (fun h17 => ?_)
  · first | replace h17 := of_decide_eq_true h17 | replace h17 := bne_true h17 | skip
    refine Wp.regI I0.mono ?_
    refine GL.move I0.mono (by conv => lhs; whnf) ?_
    first | refine GL.fieldAddr I0.mono (o := 0) rfl rfl rfl rfl (by conv => lhs; whnf) ?_ | refine GL.fieldAddrF I0.mono (o := 0) rfl rfl (by conv => lhs; whnf) ?_
    first | refine GL.load I0.mono rfl rfl rfl rfl (by simp) rfl rfl ?_ | refine GL.loadF I0.mono rfl rfl (em_get (by omega)) rfl ?_
    first | refine GL.lenF I0.mono rfl rfl (em_len _ _) ?_ | refine GL.lenO I0.mono rfl rfl rfl rfl ?_ | refine GL.lenN I0.mono rfl rfl ?_
    have hcc := hb.sq.cars1
    refine GL.addR I0.mono rfl rfl (by omega) ?_
    refine GL.call0 I0.mono rfl (Frz.aggc (by first | exact Frz.pure rfl | exact Frz.pures rfl | exact Frz.nils | exact Frz.whole rfl rfl rfl rfl (by first | exact em_len _ _ | (rw [em_len]; omega)) | exact (Frz.aggc (by first | exact Frz.pure rfl | exact Frz.nils | exact Frz.whole rfl rfl rfl rfl (by first | exact em_len _ _ | (rw [em_len]; omega))) (Frz.aggc (by first | exact Frz.pure rfl | exact Frz.nils | exact Frz.whole rfl rfl rfl rfl (by first | exact em_len _ _ | (rw [em_len]; omega))) (Frz.aggc (by first | exact Frz.pure rfl | exact Frz.nils | exact Frz.whole rfl rfl rfl rfl (by first | exact em_len _ _ | (rw [em_len]; omega))) (Frz.aggc (by first | exact Frz.pure rfl | exact Frz.nils | exact Frz.whole rfl rfl rfl rfl (by first | exact em_len _ _ | (rw [em_len]; omega))) Frz.aggn))))) (Frz.aggc (by first | exact Frz.pure rfl | exact Frz.pures rfl | exact Frz.nils | exact Frz.whole rfl rfl rfl rfl (by first | exact em_len _ _ | (rw [em_len]; omega)) | exact (Frz.aggc (by first | exact Frz.pure rfl | exact Frz.nils | exact Frz.whole rfl rfl rfl rfl (by first | exact em_len _ _ | (rw [em_len]; omega))) (Frz.aggc (by first | exact Frz.pure rfl | exact Frz.nils | exact Frz.whole rfl rfl rfl rfl (by first | exact em_len _ _ | (rw [em_len]; omega))) (Frz.aggc (by first | exact Frz.pure rfl | exact Frz.nils | exact Frz.whole rfl rfl rfl rfl (by first | exact em_len _ _ | (rw [em_len]; omega))) (Frz.aggc (by first | exact Frz.pure rfl | exact Frz.nils | exact Frz.whole rfl rfl rfl rfl (by first | exact em_len _ _ | (rw [em_len]; omega))) Frz.aggn))))) (Frz.aggn))) (within_ok _ _ (by have := hb.sq.cars1; omega)) rfl rfl (fun _ => rfl) ?_
    refine GL.assign I0.mono (by conv => lhs; whnf) ?_
    refine GL.doneF ?_
    refine goOn ?_
    refine Wp.seqI ?_
    refine Wp.regI I0.mono ?_
    first | refine GL.loadA I0.mono (n := 4) rfl rfl rfl rfl (by simp) rfl rfl (Nat.le_of_ble_eq_true rfl) (by first | (conv => lhs; simp only [List.take_succ_cons, List.take_zero, List.drop_succ_cons, List.drop_zero, List.nil_append, List.cons_append, List.drop_nil, List.append_nil, List.take_nil, List.set_cons_zero, List.set_cons_succ, Nat.zero_add, ni, nr, nc, ns, np, ic, nt, ei, cellsL]) | rfl) ?_ | refine GL.loadFA I0.mono (n := 4) rfl rfl (em_get (by omega)) rfl (Nat.le_of_ble_eq_true rfl) (by first | (conv => lhs; simp only [List.take_succ_cons, List.take_zero, List.drop_succ_cons, List.drop_zero, List.nil_append, List.cons_append, List.drop_nil, List.append_nil, List.take_nil, List.set_cons_zero, List.set_cons_succ, Nat.zero_add, ni, nr, nc, ns, np, ic, nt, ei, cellsL]) | rfl) ?_
    refine GL.move I0.mono (by conv => lhs; whnf) ?_
    refine GL.call0 I0.mono rfl (Frz.aggc (by first | exact Frz.pure rfl | exact Frz.pures rfl | exact Frz.nils | exact Frz.whole rfl rfl rfl rfl (by first | exact em_len _ _ | (rw [em_len]; omega)) | exact (Frz.aggc (by first | exact Frz.pure rfl | exact Frz.nils | exact Frz.whole rfl rfl rfl rfl (by first | exact em_len _ _ | (rw [em_len]; omega))) (Frz.aggc (by first | exact Frz.pure rfl | exact Frz.nils | exact Frz.whole rfl rfl rfl rfl (by first | exact em_len _ _ | (rw [em_len]; omega))) (Frz.aggc (by first | exact Frz.pure rfl | exact Frz.nils | exact Frz.whole rfl rfl rfl rfl (by first | exact em_len _ _ | (rw [em_len]; omega))) (Frz.aggc (by first | exact Frz.pure rfl | exact Frz.nils | exact Frz.whole rfl rfl rfl rfl (by first | exact em_len _ _ | (rw [em_len]; omega))) Frz.aggn))))) (Frz.aggc (by first | exact Frz.pure rfl | exact Frz.pures rfl | exact Frz.nils | exact Frz.whole rfl rfl rfl rfl (by first | exact em_len _ _ | (rw [em_len]; omega)) | exact (Frz.aggc (by first | exact Frz.pure rfl | exact Frz.nils | exact Frz.whole rfl rfl rfl rfl (by first | exact em_len _ _ | (rw [em_len]; omega))) (Frz.aggc (by first | exact Frz.pure rfl | exact Frz.nils | exact Frz.whole rfl rfl rfl rfl (by first | exact em_len _ _ | (rw [em_len]; omega))) (Frz.aggc (by first | exact Frz.pure rfl | exact Frz.nils | exact Frz.whole rfl rfl rfl rfl (by first | exact em_len _ _ | (rw [em_len]; omega))) (Frz.aggc (by first | exact Frz.pure rfl | exact Frz.nils | exact Frz.whole rfl rfl rfl rfl (by first | exact em_len _ _ | (rw [em_len]; omega))) Frz.aggn))))) (Frz.aggn))) (hr) rfl rfl (fun _ => rfl) ?_
    refine GL.assign I0.mono (by conv => lhs; whnf) ?_
    refine GL.doneF ?_
    refine goOn ?_
    refine Wp.seqI ?_
    refine Wp.regI I0.mono ?_
    first | refine GL.loadA I0.mono (n := 4) rfl rfl rfl rfl (by simp) rfl rfl (Nat.le_of_ble_eq_true rfl) (by first | (conv => lhs; simp only [List.take_succ_cons, List.take_zero, List.drop_succ_cons, List.drop_zero, List.nil_append, List.cons_append, List.drop_nil, List.append_nil, List.take_nil, List.set_cons_zero, List.set_cons_succ, Nat.zero_add, ni, nr, nc, ns, np, ic, nt, ei, cellsL]) | rfl) ?_ | refine GL.loadFA I0.mono (n := 4) rfl rfl (em_get (by omega)) rfl (Nat.le_of_ble_eq_true rfl) (by first | (conv => lhs; simp only [List.take_succ_cons, List.take_zero, List.drop_succ_cons, List.drop_zero, List.nil_append, List.cons_append, List.drop_nil, List.append_nil, List.take_nil, List.set_cons_zero, List.set_cons_succ, Nat.zero_add, ni, nr, nc, ns, np, ic, nt, ei, cellsL]) | rfl) ?_
    refine GL.move I0.mono (by conv => lhs; whnf) ?_
    refine GL.move I0.mono (by conv => lhs; whnf) ?_
    refine GL.call0 I0.mono rfl (Frz.aggc (by first | exact Frz.pure rfl | exact Frz.pures rfl | exact Frz.nils | exact Frz.whole rfl rfl rfl rfl (by first | exact em_len _ _ | (rw [em_len]; omega)) | exact (Frz.aggc (by first | exact Frz.pure rfl | exact Frz.nils | exact Frz.whole rfl rfl rfl rfl (by first | exact em_len _ _ | (rw [em_len]; omega))) (Frz.aggc (by first | exact Frz.pure rfl | exact Frz.nils | exact Frz.whole rfl rfl rfl rfl (by first | exact em_len _ _ | (rw [em_len]; omega))) (Frz.aggc (by first | exact Frz.pure rfl | exact Frz.nils | exact Frz.whole rfl rfl rfl rfl (by first | exact em_len _ _ | (rw [em_len]; omega))) (Frz.aggc (by first | exact Frz.pure rfl | exact Frz.nils | exact Frz.whole rfl rfl rfl rfl (by first | exact em_len _ _ | (rw [em_len]; omega))) Frz.aggn))))) (Frz.aggc (by first | exact Frz.pure rfl | exact Frz.pures rfl | exact Frz.nils | exact Frz.whole rfl rfl rfl rfl (by first | exact em_len _ _ | (rw [em_len]; omega)) | exact (Frz.aggc (by first | exact Frz.pure rfl | exact Frz.nils | exact Frz.whole rfl rfl rfl rfl (by first | exact em_len _ _ | (rw [em_len]; omega))) (Frz.aggc (by first | exact Frz.pure rfl | exact Frz.nils | exact Frz.whole rfl rfl rfl rfl (by first | exact em_len _ _ | (rw [em_len]; omega))) (Frz.aggc (by first | exact Frz.pure rfl | exact Frz.nils | exact Frz.whole rfl rfl rfl rfl (by first | exact em_len _ _ | (rw [em_len]; omega))) (Frz.aggc (by first | exact Frz.pure rfl | exact Frz.nils | exact Frz.whole rfl rfl rfl rfl (by first | exact em_len _ _ | (rw [em_len]; omega))) Frz.aggn))))) (Frz.aggc (by first | exact Frz.pure rfl | exact Frz.pures rfl | exact Frz.nils | exact Frz.whole rfl rfl rfl rfl (by first | exact em_len _ _ | (rw [em_len]; omega)) | exact (Frz.aggc (by first | exact Frz.pure rfl | exact Frz.nils | exact Frz.whole rfl rfl rfl rfl (by first | exact em_len _ _ | (rw [em_len]; omega))) (Frz.aggc (by first | exact Frz.pure rfl | exact Frz.nils | exact Frz.whole rfl rfl rfl rfl (by first | exact em_len _ _ | (rw [em_len]; omega))) (Frz.aggc (by first | exact Frz.pure rfl | exact Frz.nils | exact Frz.whole rfl rfl rfl rfl (by first | exact em_len _ _ | (rw [em_len]; omega))) (Frz.aggc (by first | exact Frz.pure rfl | exact Frz.nils | exact Frz.whole rfl rfl rfl rfl (by first | exact em_len _ _ | (rw [em_len]; omega))) Frz.aggn))))) (Frz.aggn)))) (eval_ok I hb.sq.short _ r (by unfold Short; omega)) rfl rfl (fun _ => rfl) ?_
    refine GL.move I0.mono (by conv => lhs; whnf) ?_
    refine GL.extract I0.mono rfl rfl ?_
    refine GL.extract I0.mono rfl rfl ?_
    refine GL.alloc I0.mono (cs := [LV.nils, LV.nils, LV.int .i64 0, LV.int .i64 0]) rfl rfl ?_
    intro g9
    refine GL.store I0.mono (n := 4) rfl rfl rfl rfl rfl rfl rfl rfl rfl rfl (Nat.le_of_ble_eq_true rfl) (by first | (conv => lhs; simp only [List.take_succ_cons, List.take_zero, List.drop_succ_cons, List.drop_zero, List.nil_append, List.cons_append, List.drop_nil, List.append_nil, List.take_nil, List.set_cons_zero, List.set_cons_succ, Nat.zero_add, ni, nr, nc, ns, np, ic, nt, ei, cellsL]) | rfl) (by first | (conv => lhs; simp only [List.take_succ_cons, List.take_zero, List.drop_succ_cons, List.drop_zero, List.nil_append, List.cons_append, List.drop_nil, List.append_nil, List.take_nil, List.set_cons_zero, List.set_cons_succ, Nat.zero_add, ni, nr, nc, ns, np, ic, nt, ei, cellsL]) | rfl) ?_
    refine GL.assign I0.mono (by conv => lhs; whnf) ?_
    refine GL.doneF ?_
    refine goOn ?_
    refine Wp.seqI ?_
    refine Wp.regI I0.mono ?_
    first | refine GL.loadA I0.mono (n := 4) rfl rfl rfl rfl (by simp) rfl rfl (Nat.le_of_ble_eq_true rfl) (by first | (conv => lhs; simp only [List.take_succ_cons, List.take_zero, List.drop_succ_cons, List.drop_zero, List.nil_append, List.cons_append, List.drop_nil, List.append_nil, List.take_nil, List.set_cons_zero, List.set_cons_succ, Nat.zero_add, ni, nr, nc, ns, np, ic, nt, ei, cellsL]) | rfl) ?_ | refine GL.loadFA I0.mono (n := 4) rfl rfl (em_get (by omega)) rfl (Nat.le_of_ble_eq_true rfl) (by first | (conv => lhs; simp only [List.take_succ_cons, List.take_zero, List.drop_succ_cons, List.drop_zero, List.nil_append, List.cons_append, List.drop_nil, List.append_nil, List.take_nil, List.set_cons_zero, List.set_cons_succ, Nat.zero_add, ni, nr, nc, ns, np, ic, nt, ei, cellsL]) | rfl) ?_
    refine GL.move I0.mono (by conv => lhs; whnf) ?_
    refine GL.move I0.mono (by conv => lhs; whnf) ?_
    refine GL.call0 I0.mono rfl (Frz.aggc (by first | exact Frz.pure rfl | exact Frz.pures rfl | exact Frz.nils | exact Frz.whole rfl rfl rfl rfl (by first | exact em_len _ _ | (rw [em_len]; omega)) | exact (Frz.aggc (by first | exact Frz.pure rfl | exact Frz.nils | exact Frz.whole rfl rfl rfl rfl (by first | exact em_len _ _ | (rw [em_len]; omega))) (Frz.aggc (by first | exact Frz.pure rfl | exact Frz.nils | exact Frz.whole rfl rfl rfl rfl (by first | exact em_len _ _ | (rw [em_len]; omega))) (Frz.aggc (by first | exact Frz.pure rfl | exact Frz.nils | exact Frz.whole rfl rfl rfl rfl (by first | exact em_len _ _ | (rw [em_len]; omega))) (Frz.aggc (by first | exact Frz.pure rfl | exact Frz.nils | exact Frz.whole rfl rfl rfl rfl (by first | exact em_len _ _ | (rw [em_len]; omega))) Frz.aggn))))) (Frz.aggc (by first | exact Frz.pure rfl | exact Frz.pures rfl | exact Frz.nils | exact Frz.whole rfl rfl rfl rfl (by first | exact em_len _ _ | (rw [em_len]; omega)) | exact (Frz.aggc (by first | exact Frz.pure rfl | exact Frz.nils | exact Frz.whole rfl rfl rfl rfl (by first | exact em_len _ _ | (rw [em_len]; omega))) (Frz.aggc (by first | exact Frz.pure rfl | exact Frz.nils | exact Frz.whole rfl rfl rfl rfl (by first | exact em_len _ _ | (rw [em_len]; omega))) (Frz.aggc (by first | exact Frz.pure rfl | exact Frz.nils | exact Frz.whole rfl rfl rfl rfl (by first | exact em_len _ _ | (rw [em_len]; omega))) (Frz.aggc (by first | exact Frz.pure rfl | exact Frz.nils | exact Frz.whole rfl rfl rfl rfl (by first | exact em_len _ _ | (rw [em_len]; omega))) Frz.aggn))))) (Frz.aggc (by first | exact Frz.pure rfl | exact Frz.pures rfl | exact Frz.nils | exact Frz.whole rfl rfl rfl rfl (by first | exact em_len _ _ | (rw [em_len]; omega)) | exact (Frz.aggc (by first | exact Frz.pure rfl | exact Frz.nils | exact Frz.whole rfl rfl rfl rfl (by first | exact em_len _ _ | (rw [em_len]; omega))) (Frz.aggc (by first | exact Frz.pure rfl | exact Frz.nils | exact Frz.whole rfl rfl rfl rfl (by first | exact em_len _ _ | (rw [em_len]; omega))) (Frz.aggc (by first | exact Frz.pure rfl | exact Frz.nils | exact Frz.whole rfl rfl rfl rfl (by first | exact em_len _ _ | (rw [em_len]; omega))) (Frz.aggc (by first | exact Frz.pure rfl | exact Frz.nils | exact Frz.whole rfl rfl rfl rfl (by first | exact em_len _ _ | (rw [em_len]; omega))) Frz.aggn))))) (Frz.aggn)))) (reval_ok I N hb hp _ r (by omega)) rfl rfl (fun _ => rfl) ?_
    refine GL.move I0.mono (by conv => lhs; whnf) ?_
    refine GL.extract I0.mono rfl rfl ?_
    refine GL.extract I0.mono rfl rfl ?_
    refine GL.alloc I0.mono (cs := [LV.nils, LV.nils, LV.int .i64 0, LV.int .i64 0]) rfl rfl ?_
    intro g11
    refine GL.store I0.mono (n := 4) rfl rfl rfl rfl rfl rfl rfl rfl rfl rfl (Nat.le_of_ble_eq_true rfl) (by first | (conv => lhs; simp only [List.take_succ_cons, List.take_zero, List.drop_succ_cons, List.drop_zero, List.nil_append, List.cons_append, List.drop_nil, List.append_nil, List.take_nil, List.set_cons_zero, List.set_cons_succ, Nat.zero_add, ni, nr, nc, ns, np, ic, nt, ei, cellsL]) | rfl) (by first | (conv => lhs; simp only [List.take_succ_cons, List.take_zero, List.drop_succ_cons, List.drop_zero, List.nil_append, List.cons_append, List.drop_nil, List.append_nil, List.take_nil, List.set_cons_zero, List.set_cons_succ, Nat.zero_add, ni, nr, nc, ns, np, ic, nt, ei, cellsL]) | rfl) ?_
    refine GL.assign I0.mono (by conv => lhs; whnf) ?_
    refine GL.doneF ?_
    refine goOn ?_
    refine Wp.seqI ?_
    refine Wp.regD ?_
    refine GL.move I0.mono (by conv => lhs; whnf) ?_
    refine GL.move I0.mono (by conv => lhs; whnf) ?_
    refine GL.bin I0.mono rfl ?_
    refine GL.move I0.mono (by conv => lhs; whnf) ?_
    refine GL.splitAt 44 rfl (fun h44 => ?_) (fun h44 => ?_)
    · first | rw [h44] | skip
      skip
      refine GL.guardT rfl ?_
      first | refine GL.loadA I0.mono (n := 4) rfl rfl rfl rfl (by simp) rfl rfl (Nat.le_of_ble_eq_true rfl) (by first | (conv => lhs; simp only [List.take_succ_cons, List.take_zero, List.drop_succ_cons, List.drop_zero, List.nil_append, List.cons_append, List.drop_nil, List.append_nil, List.take_nil, List.set_cons_zero, List.set_cons_succ, Nat.zero_add, ni, nr, nc, ns, np, ic, nt, ei, cellsL]) | rfl) ?_ | refine GL.loadFA I0.mono (n := 4) rfl rfl (em_get (by omega)) rfl (Nat.le_of_ble_eq_true rfl) (by first | (conv => lhs; simp only [List.take_succ_cons, List.take_zero, List.drop_succ_cons, List.drop_zero, List.nil_append, List.cons_append, List.drop_nil, List.append_nil, List.take_nil, List.set_cons_zero, List.set_cons_succ, Nat.zero_add, ni, nr, nc, ns, np, ic, nt, ei, cellsL]) | rfl) ?_
      refine GL.guardT rfl ?_
      first | refine GL.loadA I0.mono (n := 4) rfl rfl rfl rfl (by simp) rfl rfl (Nat.le_of_ble_eq_true rfl) (by first | (conv => lhs; simp only [List.take_succ_cons, List.take_zero, List.drop_succ_cons, List.drop_zero, List.nil_append, List.cons_append, List.drop_nil, List.append_nil, List.take_nil, List.set_cons_zero, List.set_cons_succ, Nat.zero_add, ni, nr, nc, ns, np, ic, nt, ei, cellsL]) | rfl) ?_ | refine GL.loadFA I0.mono (n := 4) rfl rfl (em_get (by omega)) rfl (Nat.le_of_ble_eq_true rfl) (by first | (conv => lhs; simp only [List.take_succ_cons, List.take_zero, List.drop_succ_cons, List.drop_zero, List.nil_append, List.cons_append, List.drop_nil, List.append_nil, List.take_nil, List.set_cons_zero, List.set_cons_succ, Nat.zero_add, ni, nr, nc, ns, np, ic, nt, ei, cellsL]) | rfl) ?_
      refine GL.guardT rfl ?_
      refine GL.call0 I0.mono rfl (Frz.aggc (by first | exact Frz.pure rfl | exact Frz.pures rfl | exact Frz.nils | exact Frz.whole rfl rfl rfl rfl (by first | exact em_len _ _ | (rw [em_len]; omega)) | exact (Frz.aggc (by first | exact Frz.pure rfl | exact Frz.nils | exact Frz.whole rfl rfl rfl rfl (by first | exact em_len _ _ | (rw [em_len]; omega))) (Frz.aggc (by first | exact Frz.pure rfl | exact Frz.nils | exact Frz.whole rfl rfl rfl rfl (by first | exact em_len _ _ | (rw [em_len]; omega))) (Frz.aggc (by first | exact Frz.pure rfl | exact Frz.nils | exact Frz.whole rfl rfl rfl rfl (by first | exact em_len _ _ | (rw [em_len]; omega))) (Frz.aggc (by first | exact Frz.pure rfl | exact Frz.nils | exact Frz.whole rfl rfl rfl rfl (by first | exact em_len _ _ | (rw [em_len]; omega))) Frz.aggn))))) (Frz.aggc (by first | exact Frz.pure rfl | exact Frz.pures rfl | exact Frz.nils | exact Frz.whole rfl rfl rfl rfl (by first | exact em_len _ _ | (rw [em_len]; omega)) | exact (Frz.aggc (by first | exact Frz.pure rfl | exact Frz.nils | exact Frz.whole rfl rfl rfl rfl (by first | exact em_len _ _ | (rw [em_len]; omega))) (Frz.aggc (by first | exact Frz.pure rfl | exact Frz.nils | exact Frz.whole rfl rfl rfl rfl (by first | exact em_len _ _ | (rw [em_len]; omega))) (Frz.aggc (by first | exact Frz.pure rfl | exact Frz.nils | exact Frz.whole rfl rfl rfl rfl (by first | exact em_len _ _ | (rw [em_len]; omega))) (Frz.aggc (by first | exact Frz.pure rfl | exact Frz.nils | exact Frz.whole rfl rfl rfl rfl (by first | exact em_len _ _ | (rw [em_len]; omega))) Frz.aggn))))) (Frz.aggn))) (tsame_ok _ _ (by unfold Short; exact Nat.lt_of_le_of_lt eval_len.1 (by omega)) (by unfold Short; exact Nat.lt_of_le_of_lt eval_len.2 (by omega)) (by unfold Short; exact Nat.lt_of_le_of_lt eval_len.1 (by omega)) (by unfold Short; exact Nat.lt_of_le_of_lt eval_len.2 (by omega))) rfl rfl (fun _ => rfl) ?_
      refine GL.pick I0.mono rfl (by conv => lhs; whnf) ?_
      refine GL.move I0.mono (by conv => lhs; whnf) ?_
      refine GL.splitAt 49 rfl (fun h49 => ?_) (fun h49 => ?_)
      · first | rw [h49] | skip
        skip
        refine GL.guardT rfl ?_
        first | refine GL.loadA I0.mono (n := 4) rfl rfl rfl rfl (by simp) rfl rfl (Nat.le_of_ble_eq_true rfl) (by first | (conv => lhs; simp only [List.take_succ_cons, List.take_zero, List.drop_succ_cons, List.drop_zero, List.nil_append, List.cons_append, List.drop_nil, List.append_nil, List.take_nil, List.set_cons_zero, List.set_cons_succ, Nat.zero_add, ni, nr, nc, ns, np, ic, nt, ei, cellsL]) | rfl) ?_ | refine GL.loadFA I0.mono (n := 4) rfl rfl (em_get (by omega)) rfl (Nat.le_of_ble_eq_true rfl) (by first | (conv => lhs; simp only [List.take_succ_cons, List.take_zero, List.drop_succ_cons, List.drop_zero, List.nil_append, List.cons_append, List.drop_nil, List.append_nil, List.take_nil, List.set_cons_zero, List.set_cons_succ, Nat.zero_add, ni, nr, nc, ns, np, ic, nt, ei, cellsL]) | rfl) ?_
        refine GL.guardT rfl ?_
        refine GL.move I0.mono (by conv => lhs; whnf) ?_
        refine GL.guardT rfl ?_
        refine GL.call0 I0.mono rfl (Frz.aggc (by first | exact Frz.pure rfl | exact Frz.pures rfl | exact Frz.nils | exact Frz.whole rfl rfl rfl rfl (by first | exact em_len _ _ | (rw [em_len]; omega)) | exact (Frz.aggc (by first | exact Frz.pure rfl | exact Frz.nils | exact Frz.whole rfl rfl rfl rfl (by first | exact em_len _ _ | (rw [em_len]; omega))) (Frz.aggc (by first | exact Frz.pure rfl | exact Frz.nils | exact Frz.whole rfl rfl rfl rfl (by first | exact em_len _ _ | (rw [em_len]; omega))) (Frz.aggc (by first | exact Frz.pure rfl | exact Frz.nils | exact Frz.whole rfl rfl rfl rfl (by first | exact em_len _ _ | (rw [em_len]; omega))) (Frz.aggc (by first | exact Frz.pure rfl | exact Frz.nils | exact Frz.whole rfl rfl rfl rfl (by first | exact em_len _ _ | (rw [em_len]; omega))) Frz.aggn))))) (Frz.aggc (by first | exact Frz.pure rfl | exact Frz.pures rfl | exact Frz.nils | exact Frz.whole rfl rfl rfl rfl (by first | exact em_len _ _ | (rw [em_len]; omega)) | exact (Frz.aggc (by first | exact Frz.pure rfl | exact Frz.nils | exact Frz.whole rfl rfl rfl rfl (by first | exact em_len _ _ | (rw [em_len]; omega))) (Frz.aggc (by first | exact Frz.pure rfl | exact Frz.nils | exact Frz.whole rfl rfl rfl rfl (by first | exact em_len _ _ | (rw [em_len]; omega))) (Frz.aggc (by first | exact Frz.pure rfl | exact Frz.nils | exact Frz.whole rfl rfl rfl rfl (by first | exact em_len _ _ | (rw [em_len]; omega))) (Frz.aggc (by first | exact Frz.pure rfl | exact Frz.nils | exact Frz.whole rfl rfl rfl rfl (by first | exact em_len _ _ | (rw [em_len]; omega))) Frz.aggn))))) (Frz.aggn))) (cost_ok I hb.sq.short r (by unfold Short; omega)) rfl rfl (fun _ => rfl) ?_
        refine GL.guardT rfl ?_
        first | refine GL.loadA I0.mono (n := 4) rfl rfl rfl rfl (by simp) rfl rfl (Nat.le_of_ble_eq_true rfl) (by first | (conv => lhs; simp only [List.take_succ_cons, List.take_zero, List.drop_succ_cons, List.drop_zero, List.nil_append, List.cons_append, List.drop_nil, List.append_nil, List.take_nil, List.set_cons_zero, List.set_cons_succ, Nat.zero_add, ni, nr, nc, ns, np, ic, nt, ei, cellsL]) | rfl) ?_ | refine GL.loadFA I0.mono (n := 4) rfl rfl (em_get (by omega)) rfl (Nat.le_of_ble_eq_true rfl) (by first | (conv => lhs; simp only [List.take_succ_cons, List.take_zero, List.drop_succ_cons, List.drop_zero, List.nil_append, List.cons_append, List.drop_nil, List.append_nil, List.take_nil, List.set_cons_zero, List.set_cons_succ, Nat.zero_add, ni, nr, nc, ns, np, ic, nt, ei, cellsL]) | rfl) ?_
        refine GL.guardT rfl ?_
        refine GL.move I0.mono (by conv => lhs; whnf) ?_
        refine GL.guardT rfl ?_
        refine GL.call0 I0.mono rfl (Frz.aggc (by first | exact Frz.pure rfl | exact Frz.pures rfl | exact Frz.nils | exact Frz.whole rfl rfl rfl rfl (by first | exact em_len _ _ | (rw [em_len]; omega)) | exact (Frz.aggc (by first | exact Frz.pure rfl | exact Frz.nils | exact Frz.whole rfl rfl rfl rfl (by first | exact em_len _ _ | (rw [em_len]; omega))) (Frz.aggc (by first | exact Frz.pure rfl | exact Frz.nils | exact Frz.whole rfl rfl rfl rfl (by first | exact em_len _ _ | (rw [em_len]; omega))) (Frz.aggc (by first | exact Frz.pure rfl | exact Frz.nils | exact Frz.whole rfl rfl rfl rfl (by first | exact em_len _ _ | (rw [em_len]; omega))) (Frz.aggc (by first | exact Frz.pure rfl | exact Frz.nils | exact Frz.whole rfl rfl rfl rfl (by first | exact em_len _ _ | (rw [em_len]; omega))) Frz.aggn))))) (Frz.aggc (by first | exact Frz.pure rfl | exact Frz.pures rfl | exact Frz.nils | exact Frz.whole rfl rfl rfl rfl (by first | exact em_len _ _ | (rw [em_len]; omega)) | exact (Frz.aggc (by first | exact Frz.pure rfl | exact Frz.nils | exact Frz.whole rfl rfl rfl rfl (by first | exact em_len _ _ | (rw [em_len]; omega))) (Frz.aggc (by first | exact Frz.pure rfl | exact Frz.nils | exact Frz.whole rfl rfl rfl rfl (by first | exact em_len _ _ | (rw [em_len]; omega))) (Frz.aggc (by first | exact Frz.pure rfl | exact Frz.nils | exact Frz.whole rfl rfl rfl rfl (by first | exact em_len _ _ | (rw [em_len]; omega))) (Frz.aggc (by first | exact Frz.pure rfl | exact Frz.nils | exact Frz.whole rfl rfl rfl rfl (by first | exact em_len _ _ | (rw [em_len]; omega))) Frz.aggn))))) (Frz.aggn))) (rcost_ok I N hb.sq r (by omega)) rfl rfl (fun _ => rfl) ?_
        refine GL.guardT rfl ?_
        refine GL.bin I0.mono rfl ?_
        refine GL.pick I0.mono rfl (by conv => lhs; whnf) ?_
        refine GL.move I0.mono (by conv => lhs; whnf) ?_
        refine GL.splitAt 58 rfl (fun h58 => ?_) (fun h58 => ?_)
        · first | rw [h58] | skip
          skip
          refine GL.guardT rfl ?_
          refine GL.call0 I0.mono rfl (Frz.aggn) (wakes_ok) rfl rfl (fun _ => rfl) ?_
          refine GL.pick I0.mono rfl (by conv => lhs; whnf) ?_
          refine GL.assign I0.mono (by conv => lhs; whnf) ?_
          refine GL.doneT (by kernel_rfl) ?_
          refine goOn ?_
          refine Wp.retI ?_
          refine RetX.ret ?_
          refine ⟨_, _, _, _, .cons (.tmp rfl) .nil, .frz (.pure rfl), List.nodup_nil, by simp, ?_⟩
          rfl
        · first | rw [h58] | skip
          skip
          (simp at h58)
      · first | rw [h49] | skip
        skip
        (simp at h49)
    · first | rw [h44] | skip
      skip
      (simp at h44)
  · first | replace h17 := of_decide_eq_false h17 | replace h17 := bne_false h17 | skip
    refine Wp.skipI ?_
    refine goOn ?_
    refine Wp.seqI ?_
    refine Wp.regI I0.mono ?_
    first | refine GL.loadA I0.mono (n := 4) rfl rfl rfl rfl (by simp) rfl rfl (Nat.le_of_ble_eq_true rfl) (by first | (conv => lhs; simp only [List.take_succ_cons, List.take_zero, List.drop_succ_cons, List.drop_zero, List.nil_append, List.cons_append, List.drop_nil, List.append_nil, List.take_nil, List.set_cons_zero, List.set_cons_succ, Nat.zero_add, ni, nr, nc, ns, np, ic, nt, ei, cellsL]) | rfl) ?_ | refine GL.loadFA I0.mono (n := 4) rfl rfl (em_get (by omega)) rfl (Nat.le_of_ble_eq_true rfl) (by first | (conv => lhs; simp only [List.take_succ_cons, List.take_zero, List.drop_succ_cons, List.drop_zero, List.nil_append, List.cons_append, List.drop_nil, List.append_nil, List.take_nil, List.set_cons_zero, List.set_cons_succ, Nat.zero_add, ni, nr, nc, ns, np, ic, nt, ei, cellsL]) | rfl) ?_
    refine GL.move I0.mono (by conv => lhs; whnf) ?_
    refine GL.call0 I0.mono rfl (Frz.aggc (by first | exact Frz.pure rfl | exact Frz.pures rfl | exact Frz.nils | exact Frz.whole rfl rfl rfl rfl (by first | exact em_len _ _ | (rw [em_len]; omega)) | exact (Frz.aggc (by first | exact Frz.pure rfl | exact Frz.nils | exact Frz.whole rfl rfl rfl rfl (by first | exact em_len _ _ | (rw [em_len]; omega))) (Frz.aggc (by first | exact Frz.pure rfl | exact Frz.nils | exact Frz.whole rfl rfl rfl rfl (by first | exact em_len _ _ | (rw [em_len]; omega))) (Frz.aggc (by first | exact Frz.pure rfl | exact Frz.nils | exact Frz.whole rfl rfl rfl rfl (by first | exact em_len _ _ | (rw [em_len]; omega))) (Frz.aggc (by first | exact Frz.pure rfl | exact Frz.nils | exact Frz.whole rfl rfl rfl rfl (by first | exact em_len _ _ | (rw [em_len]; omega))) Frz.aggn))))) (Frz.aggc (by first | exact Frz.pure rfl | exact Frz.pures rfl | exact Frz.nils | exact Frz.whole rfl rfl rfl rfl (by first | exact em_len _ _ | (rw [em_len]; omega)) | exact (Frz.aggc (by first | exact Frz.pure rfl | exact Frz.nils | exact Frz.whole rfl rfl rfl rfl (by first | exact em_len _ _ | (rw [em_len]; omega))) (Frz.aggc (by first | exact Frz.pure rfl | exact Frz.nils | exact Frz.whole rfl rfl rfl rfl (by first | exact em_len _ _ | (rw [em_len]; omega))) (Frz.aggc (by first | exact Frz.pure rfl | exact Frz.nils | exact Frz.whole rfl rfl rfl rfl (by first | exact em_len _ _ | (rw [em_len]; omega))) (Frz.aggc (by first | exact Frz.pure rfl | exact Frz.nils | exact Frz.whole rfl rfl rfl rfl (by first | exact em_len _ _ | (rw [em_len]; omega))) Frz.aggn))))) (Frz.aggn))) (hr) rfl rfl (fun _ => rfl) ?_
    refine GL.assign I0.mono (by conv => lhs; whnf) ?_
    refine GL.doneF ?_
    refine goOn ?_
    refine Wp.seqI ?_
    refine Wp.regI I0.mono ?_
    first | refine GL.loadA I0.mono (n := 4) rfl rfl rfl rfl (by simp) rfl rfl (Nat.le_of_ble_eq_true rfl) (by first | (conv => lhs; simp only [List.take_succ_cons, List.take_zero, List.drop_succ_cons, List.drop_zero, List.nil_append, List.cons_append, List.drop_nil, List.append_nil, List.take_nil, List.set_cons_zero, List.set_cons_succ, Nat.zero_add, ni, nr, nc, ns, np, ic, nt, ei, cellsL]) | rfl) ?_ | refine GL.loadFA I0.mono (n := 4) rfl rfl (em_get (by omega)) rfl (Nat.le_of_ble_eq_true rfl) (by first | (conv => lhs; simp only [List.take_succ_cons, List.take_zero, List.drop_succ_cons, List.drop_zero, List.nil_append, List.cons_append, List.drop_nil, List.append_nil, List.take_nil, List.set_cons_zero, List.set_cons_succ, Nat.zero_add, ni, nr, nc, ns, np, ic, nt, ei, cellsL]) | rfl) ?_
    refine GL.move I0.mono (by conv => lhs; whnf) ?_
    refine GL.move I0.mono (by conv => lhs; whnf) ?_
    refine GL.call0 I0.mono rfl (Frz.aggc (by first | exact Frz.pure rfl | exact Frz.pures rfl | exact Frz.nils | exact Frz.whole rfl rfl rfl rfl (by first | exact em_len _ _ | (rw [em_len]; omega)) | exact (Frz.aggc (by first | exact Frz.pure rfl | exact Frz.nils | exact Frz.whole rfl rfl rfl rfl (by first | exact em_len _ _ | (rw [em_len]; omega))) (Frz.aggc (by first | exact Frz.pure rfl | exact Frz.nils | exact Frz.whole rfl rfl rfl rfl (by first | exact em_len _ _ | (rw [em_len]; omega))) (Frz.aggc (by first | exact Frz.pure rfl | exact Frz.nils | exact Frz.whole rfl rfl rfl rfl (by first | exact em_len _ _ | (rw [em_len]; omega))) (Frz.aggc (by first | exact Frz.pure rfl | exact Frz.nils | exact Frz.whole rfl rfl rfl rfl (by first | exact em_len _ _ | (rw [em_len]; omega))) Frz.aggn))))) (Frz.aggc (by first | exact Frz.pure rfl | exact Frz.pures rfl | exact Frz.nils | exact Frz.whole rfl rfl rfl rfl (by first | exact em_len _ _ | (rw [em_len]; omega)) | exact (Frz.aggc (by first | exact Frz.pure rfl | exact Frz.nils | exact Frz.whole rfl rfl rfl rfl (by first | exact em_len _ _ | (rw [em_len]; omega))) (Frz.aggc (by first | exact Frz.pure rfl | exact Frz.nils | exact Frz.whole rfl rfl rfl rfl (by first | exact em_len _ _ | (rw [em_len]; omega))) (Frz.aggc (by first | exact Frz.pure rfl | exact Frz.nils | exact Frz.whole rfl rfl rfl rfl (by first | exact em_len _ _ | (rw [em_len]; omega))) (Frz.aggc (by first | exact Frz.pure rfl | exact Frz.nils | exact Frz.whole rfl rfl rfl rfl (by first | exact em_len _ _ | (rw [em_len]; omega))) Frz.aggn))))) (Frz.aggc (by first | exact Frz.pure rfl | exact Frz.pures rfl | exact Frz.nils | exact Frz.whole rfl rfl rfl rfl (by first | exact em_len _ _ | (rw [em_len]; omega)) | exact (Frz.aggc (by first | exact Frz.pure rfl | exact Frz.nils | exact Frz.whole rfl rfl rfl rfl (by first | exact em_len _ _ | (rw [em_len]; omega))) (Frz.aggc (by first | exact Frz.pure rfl | exact Frz.nils | exact Frz.whole rfl rfl rfl rfl (by first | exact em_len _ _ | (rw [em_len]; omega))) (Frz.aggc (by first | exact Frz.pure rfl | exact Frz.nils | exact Frz.whole rfl rfl rfl rfl (by first | exact em_len _ _ | (rw [em_len]; omega))) (Frz.aggc (by first | exact Frz.pure rfl | exact Frz.nils | exact Frz.whole rfl rfl rfl rfl (by first | exact em_len _ _ | (rw [em_len]; omega))) Frz.aggn))))) (Frz.aggn)))) (eval_ok I hb.sq.short _ r (by unfold Short; omega)) rfl rfl (fun _ => rfl) ?_
    refine GL.move I0.mono (by conv => lhs; whnf) ?_
    refine GL.extract I0.mono rfl rfl ?_
    refine GL.extract I0.mono rfl rfl ?_
    refine GL.alloc I0.mono (cs := [LV.nils, LV.nils, LV.int .i64 0, LV.int .i64 0]) rfl rfl ?_
    intro g9
    refine GL.store I0.mono (n := 4) rfl rfl rfl rfl rfl rfl rfl rfl rfl rfl (Nat.le_of_ble_eq_true rfl) (by first | (conv => lhs; simp only [List.take_succ_cons, List.take_zero, List.drop_succ_cons, List.drop_zero, List.nil_append, List.cons_append, List.drop_nil, List.append_nil, List.take_nil, List.set_cons_zero, List.set_cons_succ, Nat.zero_add, ni, nr, nc, ns, np, ic, nt, ei, cellsL]) | rfl) (by first | (conv => lhs; simp only [List.take_succ_cons, List.take_zero, List.drop_succ_cons, List.drop_zero, List.nil_append, List.cons_append, List.drop_nil, List.append_nil, List.take_nil, List.set_cons_zero, List.set_cons_succ, Nat.zero_add, ni, nr, nc, ns, np, ic, nt, ei, cellsL]) | rfl) ?_
    refine GL.assign I0.mono (by conv => lhs; whnf) ?_
    refine GL.doneF ?_
    refine goOn ?_
    refine Wp.seqI ?_
    refine Wp.regI I0.mono ?_
    first | refine GL.loadA I0.mono (n := 4) rfl rfl rfl rfl (by simp) rfl rfl (Nat.le_of_ble_eq_true rfl) (by first | (conv => lhs; simp only [List.take_succ_cons, List.take_zero, List.drop_succ_cons, List.drop_zero, List.nil_append, List.cons_append, List.drop_nil, List.append_nil, List.take_nil, List.set_cons_zero, List.set_cons_succ, Nat.zero_add, ni, nr, nc, ns, np, ic, nt, ei, cellsL]) | rfl) ?_ | refine GL.loadFA I0.mono (n := 4) rfl rfl (em_get (by omega)) rfl (Nat.le_of_ble_eq_true rfl) (by first | (conv => lhs; simp only [List.take_succ_cons, List.take_zero, List.drop_succ_cons, List.drop_zero, List.nil_append, List.cons_append, List.drop_nil, List.append_nil, List.take_nil, List.set_cons_zero, List.set_cons_succ, Nat.zero_add, ni, nr, nc, ns, np, ic, nt, ei, cellsL]) | rfl) ?_
    refine GL.move I0.mono (by conv => lhs; whnf) ?_
    refine GL.move I0.mono (by conv => lhs; whnf) ?_
    refine GL.call0 I0.mono rfl (Frz.aggc (by first | exact Frz.pure rfl | exact Frz.pures rfl | exact Frz.nils | exact Frz.whole rfl rfl rfl rfl (by first | exact em_len _ _ | (rw [em_len]; omega)) | exact (Frz.aggc (by first | exact Frz.pure rfl | exact Frz.nils | exact Frz.whole rfl rfl rfl rfl (by first | exact em_len _ _ | (rw [em_len]; omega))) (Frz.aggc (by first | exact Frz.pure rfl | exact Frz.nils | exact Frz.whole rfl rfl rfl rfl (by first | exact em_len _ _ | (rw [em_len]; omega))) (Frz.aggc (by first | exact Frz.pure rfl | exact Frz.nils | exact Frz.whole rfl rfl rfl rfl (by first | exact em_len _ _ | (rw [em_len]; omega))) (Frz.aggc (by first | exact Frz.pure rfl | exact Frz.nils | exact Frz.whole rfl rfl rfl rfl (by first | exact em_len _ _ | (rw [em_len]; omega))) Frz.aggn))))) (Frz.aggc (by first | exact Frz.pure rfl | exact Frz.pures rfl | exact Frz.nils | exact Frz.whole rfl rfl rfl rfl (by first | exact em_len _ _ | (rw [em_len]; omega)) | exact (Frz.aggc (by first | exact Frz.pure rfl | exact Frz.nils | exact Frz.whole rfl rfl rfl rfl (by first | exact em_len _ _ | (rw [em_len]; omega))) (Frz.aggc (by first | exact Frz.pure rfl | exact Frz.nils | exact Frz.whole rfl rfl rfl rfl (by first | exact em_len _ _ | (rw [em_len]; omega))) (Frz.aggc (by first | exact Frz.pure rfl | exact Frz.nils | exact Frz.whole rfl rfl rfl rfl (by first | exact em_len _ _ | (rw [em_len]; omega))) (Frz.aggc (by first | exact Frz.pure rfl | exact Frz.nils | exact Frz.whole rfl rfl rfl rfl (by first | exact em_len _ _ | (rw [em_len]; omega))) Frz.aggn))))) (Frz.aggc (by first | exact Frz.pure rfl | exact Frz.pures rfl | exact Frz.nils | exact Frz.whole rfl rfl rfl rfl (by first | exact em_len _ _ | (rw [em_len]; omega)) | exact (Frz.aggc (by first | exact Frz.pure rfl | exact Frz.nils | exact Frz.whole rfl rfl rfl rfl (by first | exact em_len _ _ | (rw [em_len]; omega))) (Frz.aggc (by first | exact Frz.pure rfl | exact Frz.nils | exact Frz.whole rfl rfl rfl rfl (by first | exact em_len _ _ | (rw [em_len]; omega))) (Frz.aggc (by first | exact Frz.pure rfl | exact Frz.nils | exact Frz.whole rfl rfl rfl rfl (by first | exact em_len _ _ | (rw [em_len]; omega))) (Frz.aggc (by first | exact Frz.pure rfl | exact Frz.nils | exact Frz.whole rfl rfl rfl rfl (by first | exact em_len _ _ | (rw [em_len]; omega))) Frz.aggn))))) (Frz.aggn)))) (reval_ok I N hb hp _ r (by omega)) rfl rfl (fun _ => rfl) ?_
    refine GL.move I0.mono (by conv => lhs; whnf) ?_
    refine GL.extract I0.mono rfl rfl ?_
    refine GL.extract I0.mono rfl rfl ?_
    refine GL.alloc I0.mono (cs := [LV.nils, LV.nils, LV.int .i64 0, LV.int .i64 0]) rfl rfl ?_
    intro g11
    refine GL.store I0.mono (n := 4) rfl rfl rfl rfl rfl rfl rfl rfl rfl rfl (Nat.le_of_ble_eq_true rfl) (by first | (conv => lhs; simp only [List.take_succ_cons, List.take_zero, List.drop_succ_cons, List.drop_zero, List.nil_append, List.cons_append, List.drop_nil, List.append_nil, List.take_nil, List.set_cons_zero, List.set_cons_succ, Nat.zero_add, ni, nr, nc, ns, np, ic, nt, ei, cellsL]) | rfl) (by first | (conv => lhs; simp only [List.take_succ_cons, List.take_zero, List.drop_succ_cons, List.drop_zero, List.nil_append, List.cons_append, List.drop_nil, List.append_nil, List.take_nil, List.set_cons_zero, List.set_cons_succ, Nat.zero_add, ni, nr, nc, ns, np, ic, nt, ei, cellsL]) | rfl) ?_
    refine GL.assign I0.mono (by conv => lhs; whnf) ?_
    refine GL.doneF ?_
    refine goOn ?_
    refine Wp.seqI ?_
    refine Wp.regD ?_
    refine GL.move I0.mono (by conv => lhs; whnf) ?_
    refine GL.move I0.mono (by conv => lhs; whnf) ?_
    refine GL.bin I0.mono rfl ?_
    refine GL.move I0.mono (by conv => lhs; whnf) ?_
    refine GL.splitAt 44 rfl (fun h44 => ?_) (fun h44 => ?_)
    · first | rw [h44] | skip
      skip
      refine GL.guardT rfl ?_
      first | refine GL.loadA I0.mono (n := 4) rfl rfl rfl rfl (by simp) rfl rfl (Nat.le_of_ble_eq_true rfl) (by first | (conv => lhs; simp only [List.take_succ_cons, List.take_zero, List.drop_succ_cons, List.drop_zero, List.nil_append, List.cons_append, List.drop_nil, List.append_nil, List.take_nil, List.set_cons_zero, List.set_cons_succ, Nat.zero_add, ni, nr, nc, ns, np, ic, nt, ei, cellsL]) | rfl) ?_ | refine GL.loadFA I0.mono (n := 4) rfl rfl (em_get (by omega)) rfl (Nat.le_of_ble_eq_true rfl) (by first | (conv => lhs; simp only [List.take_succ_cons, List.take_zero, List.drop_succ_cons, List.drop_zero, List.nil_append, List.cons_append, List.drop_nil, List.append_nil, List.take_nil, List.set_cons_zero, List.set_cons_succ, Nat.zero_add, ni, nr, nc, ns, np, ic, nt, ei, cellsL]) | rfl) ?_
      refine GL.guardT rfl ?_
      first | refine GL.loadA I0.mono (n := 4) rfl rfl rfl rfl (by simp) rfl rfl (Nat.le_of_ble_eq_true rfl) (by first | (conv => lhs; simp only [List.take_succ_cons, List.take_zero, List.drop_succ_cons, List.drop_zero, List.nil_append, List.cons_append, List.drop_nil, List.append_nil, List.take_nil, List.set_cons_zero, List.set_cons_succ, Nat.zero_add, ni, nr, nc, ns, np, ic, nt, ei, cellsL]) | rfl) ?_ | refine GL.loadFA I0.mono (n := 4) rfl rfl (em_get (by omega)) rfl (Nat.le_of_ble_eq_true rfl) (by first | (conv => lhs; simp only [List.take_succ_cons, List.take_zero, List.drop_succ_cons, List.drop_zero, List.nil_append, List.cons_append, List.drop_nil, List.append_nil, List.take_nil, List.set_cons_zero, List.set_cons_succ, Nat.zero_add, ni, nr, nc, ns, np, ic, nt, ei, cellsL]) | rfl) ?_
      refine GL.guardT rfl ?_
      refine GL.call0 I0.mono rfl (Frz.aggc (by first | exact Frz.pure rfl | exact Frz.pures rfl | exact Frz.nils | exact Frz.whole rfl rfl rfl rfl (by first | exact em_len _ _ | (rw [em_len]; omega)) | exact (Frz.aggc (by first | exact Frz.pure rfl | exact Frz.nils | exact Frz.whole rfl rfl rfl rfl (by first | exact em_len _ _ | (rw [em_len]; omega))) (Frz.aggc (by first | exact Frz.pure rfl | exact Frz.nils | exact Frz.whole rfl rfl rfl rfl (by first | exact em_len _ _ | (rw [em_len]; omega))) (Frz.aggc (by first | exact Frz.pure rfl | exact Frz.nils | exact Frz.whole rfl rfl rfl rfl (by first | exact em_len _ _ | (rw [em_len]; omega))) (Frz.aggc (by first | exact Frz.pure rfl | exact Frz.nils | exact Frz.whole rfl rfl rfl rfl (by first | exact em_len _ _ | (rw [em_len]; omega))) Frz.aggn))))) (Frz.aggc (by first | exact Frz.pure rfl | exact Frz.pures rfl | exact Frz.nils | exact Frz.whole rfl rfl rfl rfl (by first | exact em_len _ _ | (rw [em_len]; omega)) | exact (Frz.aggc (by first | exact Frz.pure rfl | exact Frz.nils | exact Frz.whole rfl rfl rfl rfl (by first | exact em_len _ _ | (rw [em_len]; omega))) (Frz.aggc (by first | exact Frz.pure rfl | exact Frz.nils | exact Frz.whole rfl rfl rfl rfl (by first | exact em_len _ _ | (rw [em_len]; omega))) (Frz.aggc (by first | exact Frz.pure rfl | exact Frz.nils | exact Frz.whole rfl rfl rfl rfl (by first | exact em_len _ _ | (rw [em_len]; omega))) (Frz.aggc (by first | exact Frz.pure rfl | exact Frz.nils | exact Frz.whole rfl rfl rfl rfl (by first | exact em_len _ _ | (rw [em_len]; omega))) Frz.aggn))))) (Frz.aggn))) (tsame_ok _ _ (by unfold Short; exact Nat.lt_of_le_of_lt eval_len.1 (by omega)) (by unfold Short; exact Nat.lt_of_le_of_lt eval_len.2 (by omega)) (by unfold Short; exact Nat.lt_of_le_of_lt eval_len.1 (by omega)) (by unfold Short; exact Nat.lt_of_le_of_lt eval_len.2 (by omega))) rfl rfl (fun _ => rfl) ?_
      refine GL.pick I0.mono rfl (by conv => lhs; whnf) ?_
      refine GL.move I0.mono (by conv => lhs; whnf) ?_
      refine GL.splitAt 49 rfl (fun h49 => ?_) (fun h49 => ?_)
      · first | rw [h49] | skip
        skip
        refine GL.guardT rfl ?_
        first | refine GL.loadA I0.mono (n := 4) rfl rfl rfl rfl (by simp) rfl rfl (Nat.le_of_ble_eq_true rfl) (by first | (conv => lhs; simp only [List.take_succ_cons, List.take_zero, List.drop_succ_cons, List.drop_zero, List.nil_append, List.cons_append, List.drop_nil, List.append_nil, List.take_nil, List.set_cons_zero, List.set_cons_succ, Nat.zero_add, ni, nr, nc, ns, np, ic, nt, ei, cellsL]) | rfl) ?_ | refine GL.loadFA I0.mono (n := 4) rfl rfl (em_get (by omega)) rfl (Nat.le_of_ble_eq_true rfl) (by first | (conv => lhs; simp only [List.take_succ_cons, List.take_zero, List.drop_succ_cons, List.drop_zero, List.nil_append, List.cons_append, List.drop_nil, List.append_nil, List.take_nil, List.set_cons_zero, List.set_cons_succ, Nat.zero_add, ni, nr, nc, ns, np, ic, nt, ei, cellsL]) | rfl) ?_
        refine GL.guardT rfl ?_
        refine GL.move I0.mono (by conv => lhs; whnf) ?_
        refine GL.guardT rfl ?_
        refine GL.call0 I0.mono rfl (Frz.aggc (by first | exact Frz.pure rfl | exact Frz.pures rfl | exact Frz.nils | exact Frz.whole rfl rfl rfl rfl (by first | exact em_len _ _ | (rw [em_len]; omega)) | exact (Frz.aggc (by first | exact Frz.pure rfl | exact Frz.nils | exact Frz.whole rfl rfl rfl rfl (by first | exact em_len _ _ | (rw [em_len]; omega))) (Frz.aggc (by first | exact Frz.pure rfl | exact Frz.nils | exact Frz.whole rfl rfl rfl rfl (by first | exact em_len _ _ | (rw [em_len]; omega))) (Frz.aggc (by first | exact Frz.pure rfl | exact Frz.nils | exact Frz.whole rfl rfl rfl rfl (by first | exact em_len _ _ | (rw [em_len]; omega))) (Frz.aggc (by first | exact Frz.pure rfl | exact Frz.nils | exact Frz.whole rfl rfl rfl rfl (by first | exact em_len _ _ | (rw [em_len]; omega))) Frz.aggn))))) (Frz.aggc (by first | exact Frz.pure rfl | exact Frz.pures rfl | exact Frz.nils | exact Frz.whole rfl rfl rfl rfl (by first | exact em_len _ _ | (rw [em_len]; omega)) | exact (Frz.aggc (by first | exact Frz.pure rfl | exact Frz.nils | exact Frz.whole rfl rfl rfl rfl (by first | exact em_len _ _ | (rw [em_len]; omega))) (Frz.aggc (by first | exact Frz.pure rfl | exact Frz.nils | exact Frz.whole rfl rfl rfl rfl (by first | exact em_len _ _ | (rw [em_len]; omega))) (Frz.aggc (by first | exact Frz.pure rfl | exact Frz.nils | exact Frz.whole rfl rfl rfl rfl (by first | exact em_len _ _ | (rw [em_len]; omega))) (Frz.aggc (by first | exact Frz.pure rfl | exact Frz.nils | exact Frz.whole rfl rfl rfl rfl (by first | exact em_len _ _ | (rw [em_len]; omega))) Frz.aggn))))) (Frz.aggn))) (cost_ok I hb.sq.short r (by unfold Short; omega)) rfl rfl (fun _ => rfl) ?_
        refine GL.guardT rfl ?_
        first | refine GL.loadA I0.mono (n := 4) rfl rfl rfl rfl (by simp) rfl rfl (Nat.le_of_ble_eq_true rfl) (by first | (conv => lhs; simp only [List.take_succ_cons, List.take_zero, List.drop_succ_cons, List.drop_zero, List.nil_append, List.cons_append, List.drop_nil, List.append_nil, List.take_nil, List.set_cons_zero, List.set_cons_succ, Nat.zero_add, ni, nr, nc, ns, np, ic, nt, ei, cellsL]) | rfl) ?_ | refine GL.loadFA I0.mono (n := 4) rfl rfl (em_get (by omega)) rfl (Nat.le_of_ble_eq_true rfl) (by first | (conv => lhs; simp only [List.take_succ_cons, List.take_zero, List.drop_succ_cons, List.drop_zero, List.nil_append, List.cons_append, List.drop_nil, List.append_nil, List.take_nil, List.set_cons_zero, List.set_cons_succ, Nat.zero_add, ni, nr, nc, ns, np, ic, nt, ei, cellsL]) | rfl) ?_
        refine GL.guardT rfl ?_
        refine GL.move I0.mono (by conv => lhs; whnf) ?_
        refine GL.guardT rfl ?_
        refine GL.call0 I0.mono rfl (Frz.aggc (by first | exact Frz.pure rfl | exact Frz.pures rfl | exact Frz.nils | exact Frz.whole rfl rfl rfl rfl (by first | exact em_len _ _ | (rw [em_len]; omega)) | exact (Frz.aggc (by first | exact Frz.pure rfl | exact Frz.nils | exact Frz.whole rfl rfl rfl rfl (by first | exact em_len _ _ | (rw [em_len]; omega))) (Frz.aggc (by first | exact Frz.pure rfl | exact Frz.nils | exact Frz.whole rfl rfl rfl rfl (by first | exact em_len _ _ | (rw [em_len]; omega))) (Frz.aggc (by first | exact Frz.pure rfl | exact Frz.nils | exact Frz.whole rfl rfl rfl rfl (by first | exact em_len _ _ | (rw [em_len]; omega))) (Frz.aggc (by first | exact Frz.pure rfl | exact Frz.nils | exact Frz.whole rfl rfl rfl rfl (by first | exact em_len _ _ | (rw [em_len]; omega))) Frz.aggn))))) (Frz.aggc (by first | exact Frz.pure rfl | exact Frz.pures rfl | exact Frz.nils | exact Frz.whole rfl rfl rfl rfl (by first | exact em_len _ _ | (rw [em_len]; omega)) | exact (Frz.aggc (by first | exact Frz.pure rfl | exact Frz.nils | exact Frz.whole rfl rfl rfl rfl (by first | exact em_len _ _ | (rw [em_len]; omega))) (Frz.aggc (by first | exact Frz.pure rfl | exact Frz.nils | exact Frz.whole rfl rfl rfl rfl (by first | exact em_len _ _ | (rw [em_len]; omega))) (Frz.aggc (by first | exact Frz.pure rfl | exact Frz.nils | exact Frz.whole rfl rfl rfl rfl (by first | exact em_len _ _ | (rw [em_len]; omega))) (Frz.aggc (by first | exact Frz.pure rfl | exact Frz.nils | exact Frz.whole rfl rfl rfl rfl (by first | exact em_len _ _ | (rw [em_len]; omega))) Frz.aggn))))) (Frz.aggn))) (rcost_ok I N hb.sq r (by omega)) rfl rfl (fun _ => rfl) ?_
        refine GL.guardT rfl ?_
        refine GL.bin I0.mono rfl ?_
        refine GL.pick I0.mono rfl (by conv => lhs; whnf) ?_
        refine GL.move I0.mono (by conv => lhs; whnf) ?_
        refine GL.splitAt 58 rfl (fun h58 => ?_) (fun h58 => ?_)
        · first | rw [h58] | skip
          skip
          refine GL.guardT rfl ?_
          refine GL.call0 I0.mono rfl (Frz.aggn) (wakes_ok) rfl rfl (fun _ => rfl) ?_
          refine GL.pick I0.mono rfl (by conv => lhs; whnf) ?_
          refine GL.assign I0.mono (by conv => lhs; whnf) ?_
          refine GL.doneT (by kernel_rfl) ?_
          refine goOn ?_
          refine Wp.retI ?_
          refine RetX.ret ?_
          refine ⟨_, _, _, _, .cons (.tmp rfl) .nil, .frz (.pure rfl), List.nodup_nil, by simp, ?_⟩
          rfl
        · first | rw [h58] | skip
          skip
          (simp at h58)
      · first | rw [h49] | skip
        skip
        (simp at h49)
    · first | rw [h44] | skip
      skip
      (simp at h44)


theorem law_TripTells (z0 : List Int) (h0 : Ints z0) (z1 : List Int) (h1 : Ints z1) (n : Int) : CallsV Try.prog 5 [.sl (em ni z0), .sl (em ni z1), .int .i64 n] (.bool true) :=
  tt_walk z0 z1 n (instOf z0) (nStops z0) (inst_sb z0) (inst_sp z0) (inst_ok z0 h0) (rowOf (instOf z0) z1) (row_ok (instOf z0) (inst_short z0) z1 h1) (row_short _ _)

end Go.Proofs.Ytpepcfombibpeaa
