/- The law of what a table answers, walked. -/
import Derived.Test.YtpepcfombibpeaaFg
import Derived.Test.YtpepcfombibpeaaFk
import Derived.Test.YtpepcfombibpeaaGf
import Derived.KernelRfl
set_option linter.unusedVariables false
set_option linter.unusedSimpArgs false
namespace Go.Proofs.Ytpepcfombibpeaa
open Go.Proofs Mv


theorem with_at {l : List Int} (hl : Short l) {k : Int} (h0 : 0 ≤ k) (h1 : k ≤ l.length) (s : Int) : CallsV Try.prog 54 [.sl (em ni l), .int .i64 k, .int .i64 s] (.sl (em ni (l.take k.toNat ++ [s] ++ l.drop k.toNat))) := by
  have := with_ok l hl k.toNat (by omega) s
  rwa [Int.toNat_of_nonneg h0] at this
theorem answer {I : Inst} {N : Nat} (hb : Sb I N) (hp : Sp I) {c : Int} {L : List Int} (hL : L.length ≤ 1000) {o : Option Int} (ho : o = (eval I c L).map (·.t2)) : ∃ T : Trip, (∀ l, l = L → CallsV Try.prog 32 [ei I, .int .i64 c, .sl (em ni l)] (.tup [.agg (nt T), .bool o.isSome])) ∧ (o.isSome = true → o.getD 0 = T.t2) ∧ (o.isSome = false → o.getD 0 = 0) := by
  have he := reval_ok I N hb hp c L hL
  subst ho
  cases h : eval I c L with
  | none => rw [h] at he; exact ⟨zeroT, fun l hl => by rw [hl]; exact he, fun h => (by cases h), fun _ => rfl⟩
  | some T => rw [h] at he; exact ⟨T, fun l hl => by rw [hl]; exact he, fun _ => rfl, fun h => (by cases h)⟩

set_option maxRecDepth 100000 in
set_option maxHeartbeats 4000000 in
theorem ft_walk (z0 z1 z2 z3 : List Int) (n stop : Int) (I : Inst) (N : Nat) (hb : Sb I N) (hp : Sp I) (hsd : Sd I) (ht : Tb I) (hst : I.stops.length ≤ 8) (hcn : I.cars.length ≤ 3) (hI : CallsV Try.prog 29 [.sl (em ni z0)] (ei I)) (r0 s p : List Int) (hr : CallsV Try.prog 30 [ei I, .sl (em ni z1)] (.sl (em ni r0))) (hs2 : CallsV Try.prog 30 [ei I, .sl (em ni z2)] (.sl (em ni s))) (hp2 : CallsV Try.prog 30 [ei I, .sl (em ni z3)] (.sl (em ni p))) (hrl : r0.length ≤ 14) (hsl : s.length ≤ 14) (hpl : p.length ≤ 14) (c : Int) (hc : within n I.cars.length = c) (hc0 : 0 ≤ c) (hc1 : c < I.cars.length) : CallsV Try.prog 19 [.sl (em ni z0), .sl (em ni z1), .sl (em ni z2), .sl (em ni z3), .int .i64 n, .int .i64 stop] (.bool true) := by
  refine CallsR.intro set_sound mix Try.func19 rfl rfl (by simp [Try.f19]) (by kernel_rfl) (nb := 0) ?_
  unfold Try.f19
  refine Wp.seqI ?_
  refine Wp.regI I1.mono ?_
  refine GL.assign I1.mono (by conv => lhs; whnf) ?_
  refine GL.doneF ?_
  refine goOn ?_
  refine Wp.seqI ?_
  refine Wp.regI I1.mono ?_
  refine GL.move I1.mono (by conv => lhs; whnf) ?_
  refine GL.call0 I1.mono rfl (Frz.aggc (by exact Frz.pure rfl) (Frz.aggn)) (hI) rfl rfl (fun _ => rfl) ?_
  refine GL.alloc I1.mono (cs := [LV.nils, LV.nils, LV.nils, LV.nils]) rfl rfl ?_
  intro g13
  refine GL.storeW I1.mono (n := 4) rfl rfl rfl rfl rfl rfl rfl (by conv => lhs; whnf) rfl rfl rfl ?_
  refine GL.doneF ?_
  refine goOn ?_
  refine Wp.seqI ?_
  refine Wp.regI I1.mono ?_
  refine GL.move I1.mono (by conv => lhs; whnf) ?_
  refine GL.fieldAddr I1.mono (o := 0) rfl rfl rfl rfl (by conv => lhs; whnf) ?_
  refine GL.load I1.mono rfl rfl rfl rfl (by simp) rfl rfl ?_
  refine GL.lenF I1.mono rfl rfl (em_len _ _) ?_
  refine GL.call0 I1.mono rfl (Frz.aggc (by exact Frz.pure rfl) (Frz.aggc (by exact Frz.pure rfl) (Frz.aggn))) ((hc ▸ within_ok _ _ (by omega))) rfl rfl (fun _ => rfl) ?_
  refine GL.assign I1.mono (by conv => lhs; whnf) ?_
  refine GL.doneF ?_
  refine goOn ?_
  refine Wp.seqI ?_
  refine Wp.regD ?_
  refine GL.loadW I1.mono (n := 4) rfl rfl rfl rfl (by simp) rfl rfl rfl ?_
  refine GL.move I1.mono (by conv => lhs; whnf) ?_
  refine GL.call0 I1.mono rfl (Frz.aggc (by exact Frz.pures rfl) (Frz.aggc (by exact Frz.pure rfl) (Frz.aggn))) (hr) rfl rfl (fun _ => rfl) ?_
  refine GL.loadW I1.mono (n := 4) rfl rfl rfl rfl (by simp) rfl rfl rfl ?_
  refine GL.move I1.mono (by conv => lhs; whnf) ?_
  refine GL.call0 I1.mono rfl (Frz.aggc (by exact Frz.pures rfl) (Frz.aggc (by exact Frz.pure rfl) (Frz.aggn))) (hs2) rfl rfl (fun _ => rfl) ?_
  refine GL.assign I1.mono (by conv => lhs; whnf) ?_
  refine GL.assign I1.mono (by conv => lhs; whnf) ?_
  refine GL.doneT (by kernel_rfl) ?_
  refine goOn ?_
  refine Wp.seqI ?_
  refine Wp.regD ?_
  refine GL.loadW I1.mono (n := 4) rfl rfl rfl rfl (by simp) rfl rfl rfl ?_
  refine GL.move I1.mono (by conv => lhs; whnf) ?_
  refine GL.move I1.mono (by conv => lhs; whnf) ?_
  refine GL.callN I1.mono rfl (Frz.aggc (Frz.aggc (by exact Frz.pure rfl) (Frz.aggc (by exact Frz.pure rfl) (Frz.aggc (by exact Frz.pure rfl) (Frz.aggc (by exact Frz.pure rfl) Frz.aggn)))) (Frz.aggc (Frz.pure rfl) (Frz.aggc (Frz.pure rfl) Frz.aggn))) (tnew_ok I ht c r0 (by unfold Short; omega)) rfl rfl (imp_tab _ _ _ _ _ _ _) ?_
  refine GL.loadW I1.mono (n := 4) rfl rfl rfl rfl (by simp) rfl rfl rfl ?_
  refine GL.move I1.mono (by conv => lhs; whnf) ?_
  refine GL.move I1.mono (by conv => lhs; whnf) ?_
  refine GL.callN I1.mono rfl (Frz.aggc (Frz.aggc (by exact Frz.pure rfl) (Frz.aggc (by exact Frz.pure rfl) (Frz.aggc (by exact Frz.pure rfl) (Frz.aggc (by exact Frz.pure rfl) Frz.aggn)))) (Frz.aggc (Frz.pure rfl) (Frz.aggc (Frz.pure rfl) Frz.aggn))) (tnew_ok I ht c s (by unfold Short; omega)) rfl rfl (imp_tab _ _ _ _ _ _ _) ?_
  refine GL.assign I1.mono (by conv => lhs; whnf) ?_
  refine GL.assign I1.mono (by conv => lhs; whnf) ?_
  refine GL.doneT (by kernel_rfl) ?_
  refine goOn ?_
  refine Wp.seqI ?_
  refine Wp.seqI ?_
  refine Wp.regI I1.mono ?_
  refine GL.move I1.mono (by conv => lhs; whnf) ?_
  refine GL.nilEq I1.mono rfl rfl rfl rfl rfl ?_
  refine GL.move I1.mono (by conv => lhs; whnf) ?_
  refine GL.guardT rfl ?_
  refine GL.move I1.mono (by conv => lhs; whnf) ?_
  refine GL.guardT rfl ?_
  refine GL.nilEq I1.mono rfl rfl rfl rfl rfl ?_
  refine GL.pick I1.mono rfl (by conv => lhs; whnf) ?_
  refine GL.doneF ?_
  refine goOn ?_
  refine Wp.condF rfl ?_
  refine Wp.skipI ?_
  refine goOn ?_
  refine Wp.seqI ?_
  refine Wp.seqI ?_
  refine Wp.regI I1.mono ?_
  refine GL.assign I1.mono (by conv => lhs; whnf) ?_
  refine GL.doneF ?_
  refine goOn ?_
  refine Wp.blockI ?_
  refine Wp.loopI I1.mono (α := Nat × List Int × Nat × Nat) (fun ⟨j, r, gt, gu⟩ st => (j ≤ 2 ∧ r.length ≤ 14) ∧ ∃ m0, st = ⟨(updS (updS (updS (updS (updS (updS (updS (updS (updS (fun _ => LV.undef) 3 (.sl (em ni z3))) 4 (.int .i64 c)) 5 (.int .i64 stop)) 13 (.ref 832 g13 0 0)) 14 (.sl (em ni r))) 15 (.sl (em ni s))) 16 (.ref 2688 gt 0 0)) 17 (.ref 2944 gu 0 0)) 18 (.int .i64 (j : Int))), effM m0 [(832, ⟨g13, false, .var, 4, [ic I]⟩), (2688, ⟨gt, false, .var, 8, [tabL I c (r.length : Int) (heads I c r) (tails I c r)]⟩), (2944, ⟨gu, false, .var, 8, [tabL I c (s.length : Int) (heads I c s) (tails I c s)]⟩)]⟩) (fun ⟨j, r, gt, gu⟩ => 2 - j) ⟨0, r0, _, _⟩ ⟨_, (LessS.weak (LessS.upd (LessS.upd (LessS.upd (LessS.upd (LessS.upd (LessS.upd (LessS.upd (LessS.upd (LessS.upd (LessS.nil _) rfl) rfl) rfl) rfl) rfl) rfl) rfl) rfl) rfl) _), ⟨Nat.zero_le _, hrl⟩, _, (congrArg (St.mk _) (effM_eq (Has.cons rfl (Has.cons rfl (Has.cons rfl Has.nil)))).symm)⟩ ?_
  rintro ⟨j, r, gt, gu⟩ _ ⟨⟨hj, hrl⟩, m0, rfl⟩
  refine Wp.seqI ?_
  refine Wp.seqI ?_
  refine Wp.regI I1.mono ?_
  refine GL.move I1.mono (by conv => lhs; whnf) ?_
  refine GL.bin I1.mono rfl ?_
  refine GL.doneF ?_
  refine goOn ?_
  refine Wp.condI rfl (fun h54 => ?_) (fun h54 => ?_)
  ·replace h54 := of_decide_eq_true h54
   refine Wp.skipI ?_
   refine goOn ?_
   refine Wp.seqI ?_
   refine Wp.blockI ?_
   refine Wp.seqI ?_
   refine Wp.seqI ?_
   refine Wp.regI I1.mono ?_
   refine GL.move I1.mono (by conv => lhs; whnf) ?_
   refine GL.callFl I1.mono rfl (Frz.aggc (Frz.ref rfl rfl rfl rfl (Frz.pures rfl)) Frz.aggn) (tlen_ok _ _ _ _ _) (FlatI.sca rfl) rfl rfl ?_
   refine GL.move I1.mono (by conv => lhs; whnf) ?_
   refine GL.lenF I1.mono rfl rfl (em_len _ _) ?_
   refine GL.bin I1.mono (v := .bool false) (by show some (LV.bool (_ != _)) = _; rw [bne_self_eq_false]) ?_
   refine GL.doneF ?_
   refine goOn ?_
   refine Wp.condF rfl ?_
   refine Wp.skipI ?_
   refine goOn ?_
   refine Wp.seqI ?_
   refine Wp.seqI ?_
   have hw := twhole_ok I c r.length (heads I c r) (tails I c r) ht.short
   have ho := t_whole hb hp hsd hc0 hc1 (l := r) (by omega)
   generalize meet I c (headAt (heads I c r) r.length) (tailAt (tails I c r) r.length) = o at hw ho
   obtain ⟨T0, f1, f2, f3⟩ := answer hb hp (by omega) ho
   refine Wp.regI I1.mono ?_
   refine GL.move I1.mono (by conv => lhs; whnf) ?_
   refine GL.callFl I1.mono rfl (Frz.aggc (Frz.ref rfl rfl rfl rfl (Frz.pures rfl)) Frz.aggn) (hw) (flat_ib _ _) rfl rfl ?_
   refine GL.move I1.mono (by conv => lhs; whnf) ?_
   refine GL.extract I1.mono rfl rfl ?_
   refine GL.extract I1.mono rfl rfl ?_
   refine GL.assign I1.mono (by conv => lhs; whnf) ?_
   refine GL.assign I1.mono (by conv => lhs; whnf) ?_
   refine GL.doneF ?_
   refine goOn ?_
   refine Wp.seqI ?_
   refine Wp.regI I1.mono ?_
   refine GL.loadW I1.mono (n := 4) rfl rfl rfl rfl (by simp) rfl rfl rfl ?_
   refine GL.move I1.mono (by conv => lhs; whnf) ?_
   refine GL.move I1.mono (by conv => lhs; whnf) ?_
   refine GL.move I1.mono (by conv => lhs; whnf) ?_
   refine GL.move I1.mono (by conv => lhs; whnf) ?_
   refine GL.call0 I1.mono rfl (Frz.aggc (by exact Frz.pures rfl) (Frz.aggc (by exact Frz.pure rfl) (Frz.aggc (by exact Frz.pure rfl) (Frz.aggc (by exact Frz.pure rfl) (Frz.aggc (by exact Frz.pure rfl) (Frz.aggn)))))) (right_ok (f1 _ rfl) f2 f3) rfl rfl (fun _ => rfl) ?_
   refine GL.un I1.mono rfl ?_
   refine GL.doneF ?_
   refine goOn ?_
   refine Wp.condF rfl ?_
   refine Wp.skipI ?_
   refine goOn ?_
   refine Wp.seqI ?_
   have hws := within_in (a := stop) (n := (I.stops.length : Int) + 1) (by omega)
   refine Wp.regI I1.mono ?_
   refine GL.move I1.mono (by conv => lhs; whnf) ?_
   refine GL.fieldAddr I1.mono (o := 1) rfl rfl rfl rfl (by conv => lhs; whnf) ?_
   refine GL.load I1.mono rfl rfl rfl rfl (by simp) rfl rfl ?_
   refine GL.lenF I1.mono rfl rfl (em_len _ _) ?_
   refine GL.addR I1.mono rfl rfl (by omega) ?_
   refine GL.call0 I1.mono rfl (Frz.aggc (by exact Frz.pure rfl) (Frz.aggc (by exact Frz.pure rfl) (Frz.aggn))) (within_ok _ _ (by omega)) rfl rfl (fun _ => rfl) ?_
   refine GL.addR I1.mono rfl rfl (by omega) ?_
   refine GL.assign I1.mono (by conv => lhs; whnf) ?_
   refine GL.doneF ?_
   refine goOn ?_
   refine Wp.seqI ?_
   refine Wp.seqI ?_
   refine Wp.regI I1.mono ?_
   refine GL.assign I1.mono (by conv => lhs; whnf) ?_
   refine GL.doneF ?_
   refine goOn ?_
   refine Wp.blockI ?_
   refine Wp.loopI I1.mono (α := Int) (fun k st => (-1 ≤ k ∧ k ≤ r.length + 2) ∧ ∃ m0, st = ⟨(updS (updS (updS (updS (updS (updS (updS (updS (updS (updS (updS (fun _ => LV.undef) 3 (.sl (em ni z3))) 4 (.int .i64 c)) 5 (.int .i64 stop)) 13 (.ref 832 g13 0 0)) 14 (.sl (em ni r))) 15 (.sl (em ni s))) 16 (.ref 2688 gt 0 0)) 17 (.ref 2944 gu 0 0)) 18 (.int .i64 (j : Int))) 21 (.int .i64 (1 + within stop ((I.stops.length : Int) + 1)))) 22 (.int .i64 k)), effM m0 [(832, ⟨g13, false, .var, 4, [ic I]⟩), (2688, ⟨gt, false, .var, 8, [tabL I c (r.length : Int) (heads I c r) (tails I c r)]⟩), (2944, ⟨gu, false, .var, 8, [tabL I c (s.length : Int) (heads I c s) (tails I c s)]⟩)]⟩) (fun k => (r.length + 2 - k).toNat) (-1) ⟨_, (LessS.weak (LessS.upd (LessS.upd (LessS.upd (LessS.upd (LessS.upd (LessS.upd (LessS.upd (LessS.upd (LessS.upd (LessS.upd (LessS.upd (LessS.nil _) rfl) rfl) rfl) rfl) rfl) rfl) rfl) rfl) rfl) rfl) rfl) _), (by omega), _, (congrArg (St.mk _) (effM_eq (Has.cons rfl (Has.cons rfl (Has.cons rfl Has.nil)))).symm)⟩ ?_
   rintro k _ ⟨hk, m0, rfl⟩
   refine Wp.seqI ?_
   refine Wp.seqI ?_
   refine Wp.regI I1.mono ?_
   refine GL.move I1.mono (by conv => lhs; whnf) ?_
   refine GL.move I1.mono (by conv => lhs; whnf) ?_
   refine GL.lenF I1.mono rfl rfl (em_len _ _) ?_
   refine GL.addR I1.mono rfl rfl (by omega) ?_
   refine GL.bin I1.mono rfl ?_
   refine GL.doneF ?_
   refine goOn ?_
   refine Wp.condI rfl (fun h85 => ?_) (fun h85 => ?_)
   ·replace h85 := of_decide_eq_true h85
    refine Wp.skipI ?_
    refine goOn ?_
    refine Wp.seqI ?_
    refine Wp.blockI ?_
    refine Wp.seqI ?_
    have hi := tinsert_ok I c r.length (heads I c r) (tails I c r) ht k (1 + within stop ((I.stops.length : Int) + 1))
    have hin := fun h0 h1 => t_insert hb hp hsd hc0 hc1 (l := r) (by omega) (k := k) h0 h1 (1 + within stop ((I.stops.length : Int) + 1))
    have hout : k < 0 ∨ r.length < k → meet I c (extend I c (headAt (heads I c r) k) (1 + within stop ((I.stops.length : Int) + 1))) (tailAt (tails I c r) k) = none := fun h => by rw [headAt_out h, ext_zh, meet_zh]
    generalize meet I c (extend I c (headAt (heads I c r) k) (1 + within stop ((I.stops.length : Int) + 1))) (tailAt (tails I c r) k) = o at hi hin hout
    refine Wp.regI I1.mono ?_
    refine GL.move I1.mono (by conv => lhs; whnf) ?_
    refine GL.move I1.mono (by conv => lhs; whnf) ?_
    refine GL.move I1.mono (by conv => lhs; whnf) ?_
    refine GL.callFl I1.mono rfl (Frz.aggc (Frz.ref rfl rfl rfl rfl (Frz.pures rfl)) (Frz.aggc (Frz.pure rfl) (Frz.aggc (Frz.pure rfl) Frz.aggn))) (hi) (flat_ib _ _) rfl rfl ?_
    refine GL.move I1.mono (by conv => lhs; whnf) ?_
    refine GL.extract I1.mono rfl rfl ?_
    refine GL.extract I1.mono rfl rfl ?_
    refine GL.assign I1.mono (by conv => lhs; whnf) ?_
    refine GL.assign I1.mono (by conv => lhs; whnf) ?_
    refine GL.doneF ?_
    refine goOn ?_
    refine Wp.merge I1.mono (fun st => (True) ∧ ∃ m0, st = ⟨(updS (updS (updS (updS (updS (updS (updS (updS (updS (updS (updS (fun _ => LV.undef) 3 (.sl (em ni z3))) 4 (.int .i64 c)) 5 (.int .i64 stop)) 13 (.ref 832 g13 0 0)) 14 (.sl (em ni r))) 15 (.sl (em ni s))) 16 (.ref 2688 gt 0 0)) 17 (.ref 2944 gu 0 0)) 18 (.int .i64 (j : Int))) 21 (.int .i64 (1 + within stop ((I.stops.length : Int) + 1)))) 22 (.int .i64 k)), effM m0 [(832, ⟨g13, false, .var, 4, [ic I]⟩), (2688, ⟨gt, false, .var, 8, [tabL I c (r.length : Int) (heads I c r) (tails I c r)]⟩), (2944, ⟨gu, false, .var, 8, [tabL I c (s.length : Int) (heads I c s) (tails I c s)]⟩)]⟩) ?_ ?_
    ·skip
     refine Wp.seqI ?_
     refine Wp.regI I1.mono ?_
     refine GL.move I1.mono (by conv => lhs; whnf) ?_
     refine GL.bin I1.mono rfl ?_
     refine GL.move I1.mono (by conv => lhs; whnf) ?_
     refine GL.splitAt 97 rfl (fun h97 => ?_) (fun h97 => ?_)
     ·rw [h97]
      replace h97 := of_decide_eq_true h97
      refine GL.guardT rfl ?_
      refine GL.move I1.mono (by conv => lhs; whnf) ?_
      refine GL.guardT rfl ?_
      refine GL.move I1.mono (by conv => lhs; whnf) ?_
      refine GL.guardT rfl ?_
      refine GL.lenF I1.mono rfl rfl (em_len _ _) ?_
      refine GL.guardT rfl ?_
      refine GL.bin I1.mono rfl ?_
      refine GL.pick I1.mono rfl (by conv => lhs; whnf) ?_
      refine GL.doneF ?_
      refine goOn ?_
      refine Wp.condI rfl (fun h102 => ?_) (fun h102 => ?_)
      ·replace h102 := of_decide_eq_true h102
       refine Wp.seqI ?_
       obtain ⟨T0, f1, f2, f3⟩ := answer hb hp (by rw [List.length_append, List.length_append, List.length_take, List.length_drop]; simp only [List.length_cons, List.length_nil]; omega) (hin (by omega) (by omega))
       refine Wp.regD ?_
       refine GL.loadW I1.mono (n := 4) rfl rfl rfl rfl (by simp) rfl rfl rfl ?_
       refine GL.move I1.mono (by conv => lhs; whnf) ?_
       refine GL.move I1.mono (by conv => lhs; whnf) ?_
       refine GL.move I1.mono (by conv => lhs; whnf) ?_
       refine GL.move I1.mono (by conv => lhs; whnf) ?_
       refine GL.call0 I1.mono rfl (Frz.aggc (Frz.pure rfl) (Frz.aggc (Frz.pure rfl) (Frz.aggc (Frz.pure rfl) Frz.aggn))) (with_at (by unfold Short; omega) (by omega) (by omega) _) rfl rfl (fun _ => rfl) ?_
       refine GL.move I1.mono (by conv => lhs; whnf) ?_
       refine GL.move I1.mono (by conv => lhs; whnf) ?_
       refine GL.call0 I1.mono rfl (Frz.aggc (by exact Frz.pures rfl) (Frz.aggc (by exact Frz.pure rfl) (Frz.aggc (by exact Frz.pure rfl) (Frz.aggc (by exact Frz.pure rfl) (Frz.aggc (by exact Frz.pure rfl) (Frz.aggn)))))) (right_ok (f1 _ rfl) f2 f3) rfl rfl (fun _ => rfl) ?_
       refine GL.un I1.mono rfl ?_
       refine GL.doneT (by kernel_rfl) ?_
       refine goOn ?_
       refine Wp.condF rfl ?_
       refine Wp.skipI ?_
       refine ⟨_, (LessS.weak (LessS.upd (LessS.upd (LessS.upd (LessS.upd (LessS.upd (LessS.upd (LessS.upd (LessS.upd (LessS.upd (LessS.upd (LessS.upd (LessS.nil _) rfl) rfl) rfl) rfl) rfl) rfl) rfl) rfl) rfl) rfl) rfl) _), trivial, _, (congrArg (St.mk _) (effM_eq (Has.cons rfl (Has.cons rfl (Has.cons rfl Has.nil)))).symm)⟩
      ·replace h102 := of_decide_eq_false h102
       refine Wp.seqI ?_
       obtain rfl := hout (by omega)
       refine Wp.regI I1.mono ?_
       refine GL.move I1.mono (by conv => lhs; whnf) ?_
       refine GL.move I1.mono (by conv => lhs; whnf) ?_
       refine GL.guardT rfl ?_
       refine GL.move I1.mono (by conv => lhs; whnf) ?_
       refine GL.guardT rfl ?_
       refine GL.bin I1.mono (v := .bool false) (by kernel_rfl) ?_
       refine GL.pick I1.mono rfl (by conv => lhs; whnf) ?_
       refine GL.doneF ?_
       refine goOn ?_
       refine Wp.condF rfl ?_
       refine Wp.skipI ?_
       refine ⟨_, (LessS.weak (LessS.upd (LessS.upd (LessS.upd (LessS.upd (LessS.upd (LessS.upd (LessS.upd (LessS.upd (LessS.upd (LessS.upd (LessS.upd (LessS.nil _) rfl) rfl) rfl) rfl) rfl) rfl) rfl) rfl) rfl) rfl) rfl) _), trivial, _, (congrArg (St.mk _) (effM_eq (Has.cons rfl (Has.cons rfl (Has.cons rfl Has.nil)))).symm)⟩
     ·rw [h97]
      replace h97 := of_decide_eq_false h97
      refine GL.guardF rfl ?_
      refine GL.guardF rfl ?_
      refine GL.guardF rfl ?_
      refine GL.guardF rfl ?_
      refine GL.pick I1.mono rfl (by conv => lhs; whnf) ?_
      refine GL.doneF ?_
      refine goOn ?_
      refine Wp.condF rfl ?_
      refine Wp.seqI ?_
      obtain rfl := hout (by omega)
      refine Wp.regI I1.mono ?_
      refine GL.move I1.mono (by conv => lhs; whnf) ?_
      refine GL.move I1.mono (by conv => lhs; whnf) ?_
      refine GL.guardT rfl ?_
      refine GL.move I1.mono (by conv => lhs; whnf) ?_
      refine GL.guardT rfl ?_
      refine GL.bin I1.mono (v := .bool false) (by kernel_rfl) ?_
      refine GL.pick I1.mono rfl (by conv => lhs; whnf) ?_
      refine GL.doneF ?_
      refine goOn ?_
      refine Wp.condF rfl ?_
      refine Wp.skipI ?_
      refine ⟨_, (LessS.weak (LessS.upd (LessS.upd (LessS.upd (LessS.upd (LessS.upd (LessS.upd (LessS.upd (LessS.upd (LessS.upd (LessS.upd (LessS.upd (LessS.nil _) rfl) rfl) rfl) rfl) rfl) rfl) rfl) rfl) rfl) rfl) rfl) _), trivial, _, (congrArg (St.mk _) (effM_eq (Has.cons rfl (Has.cons rfl (Has.cons rfl Has.nil)))).symm)⟩
    ·rintro _ ⟨-, m0, rfl⟩
     refine Wp.seqI ?_
     have hi := tremove_ok I c r.length (heads I c r) (tails I c r) ht.short k
     have hin := fun h0 h1 => t_remove hb hp hsd hc0 hc1 (l := r) (by omega) (k := k) h0 h1
     have hout : k < 0 ∨ r.length ≤ k → meet I c (headAt (heads I c r) k) (tailAt (tails I c r) (wadd k 1)) = none := fun h => by
       rcases Int.lt_or_le k 0 with h0 | h0
       · rw [headAt_out (.inl h0), meet_zh]
       · rw [tailAt_out (k := wadd k 1) (.inr (by rw [wadd_small (by omega)]; omega)), meet_zt]
     generalize meet I c (headAt (heads I c r) k) (tailAt (tails I c r) (wadd k 1)) = o at hi hin hout
     refine Wp.regI I1.mono ?_
     refine GL.move I1.mono (by conv => lhs; whnf) ?_
     refine GL.move I1.mono (by conv => lhs; whnf) ?_
     refine GL.callFl I1.mono rfl (Frz.aggc (Frz.ref rfl rfl rfl rfl (Frz.pures rfl)) (Frz.aggc (Frz.pure rfl) Frz.aggn)) (hi) (flat_ib _ _) rfl rfl ?_
     refine GL.move I1.mono (by conv => lhs; whnf) ?_
     refine GL.extract I1.mono rfl rfl ?_
     refine GL.extract I1.mono rfl rfl ?_
     refine GL.assign I1.mono (by conv => lhs; whnf) ?_
     refine GL.assign I1.mono (by conv => lhs; whnf) ?_
     refine GL.doneF ?_
     refine goOn ?_
     refine Wp.merge I1.mono (fun st => (True) ∧ ∃ m0, st = ⟨(updS (updS (updS (updS (updS (updS (updS (updS (updS (updS (updS (fun _ => LV.undef) 3 (.sl (em ni z3))) 4 (.int .i64 c)) 5 (.int .i64 stop)) 13 (.ref 832 g13 0 0)) 14 (.sl (em ni r))) 15 (.sl (em ni s))) 16 (.ref 2688 gt 0 0)) 17 (.ref 2944 gu 0 0)) 18 (.int .i64 (j : Int))) 21 (.int .i64 (1 + within stop ((I.stops.length : Int) + 1)))) 22 (.int .i64 k)), effM m0 [(832, ⟨g13, false, .var, 4, [ic I]⟩), (2688, ⟨gt, false, .var, 8, [tabL I c (r.length : Int) (heads I c r) (tails I c r)]⟩), (2944, ⟨gu, false, .var, 8, [tabL I c (s.length : Int) (heads I c s) (tails I c s)]⟩)]⟩) ?_ ?_
     ·skip
      refine Wp.seqI ?_
      refine Wp.regI I1.mono ?_
      refine GL.move I1.mono (by conv => lhs; whnf) ?_
      refine GL.bin I1.mono rfl ?_
      refine GL.move I1.mono (by conv => lhs; whnf) ?_
      refine GL.splitAt 126 rfl (fun h126 => ?_) (fun h126 => ?_)
      ·rw [h126]
       replace h126 := of_decide_eq_true h126
       refine GL.guardT rfl ?_
       refine GL.move I1.mono (by conv => lhs; whnf) ?_
       refine GL.guardT rfl ?_
       refine GL.move I1.mono (by conv => lhs; whnf) ?_
       refine GL.guardT rfl ?_
       refine GL.lenF I1.mono rfl rfl (em_len _ _) ?_
       refine GL.guardT rfl ?_
       refine GL.bin I1.mono rfl ?_
       refine GL.pick I1.mono rfl (by conv => lhs; whnf) ?_
       refine GL.doneF ?_
       refine goOn ?_
       refine Wp.condI rfl (fun h131 => ?_) (fun h131 => ?_)
       ·replace h131 := of_decide_eq_true h131
        refine Wp.seqI ?_
        rcases (show r.take k.toNat = [] ∨ 0 < (r.take k.toNat).length by cases r.take k.toNat with | nil => exact .inl rfl | cons a r => exact .inr (by simp)) with k1 | k1
        ·skip
         rcases (show r.drop (k + 1).toNat = [] ∨ 0 < (r.drop (k + 1).toNat).length by cases r.drop (k + 1).toNat with | nil => exact .inl rfl | cons a r => exact .inr (by simp)) with k2 | k2
         ·skip
          obtain ⟨T0, f1, f2, f3⟩ := answer hb hp (by rw [List.length_append, List.length_take, List.length_drop]; omega) (hin (by omega) (by omega))
          refine Wp.regD ?_
          refine GL.loadW I1.mono (n := 4) rfl rfl rfl rfl (by simp) rfl rfl rfl ?_
          refine GL.move I1.mono (by conv => lhs; whnf) ?_
          refine GL.move I1.mono (by conv => lhs; whnf) ?_
          refine GL.move I1.mono (by conv => lhs; whnf) ?_
          refine GL.sliceTo I1.mono (sz := 1) rfl rfl rfl rfl (by intro e he; obtain ⟨a, -, rfl⟩ := List.mem_map.1 he; rfl) (by omega) (by omega) (by rfl) ?_
          refine GL.appendNil I1.mono rfl rfl rfl rfl (show LV.sl (em ni (r.take k.toNat)) = .sl [] by rw [k1]; rfl) ?_
          refine GL.move I1.mono (by conv => lhs; whnf) ?_
          refine GL.move I1.mono (by conv => lhs; whnf) ?_
          refine GL.addR I1.mono rfl rfl (by omega) ?_
          refine GL.sliceFrom I1.mono (sz := 1) rfl rfl rfl rfl (by intro e he; obtain ⟨a, -, rfl⟩ := List.mem_map.1 he; rfl) (by omega) (by omega) (by rfl) ?_
          refine GL.appendNil I1.mono rfl rfl rfl rfl (show LV.sl (em ni (r.drop (k + 1).toNat)) = .sl [] by rw [k2]; rfl) ?_
          refine GL.move I1.mono (by conv => lhs; whnf) ?_
          refine GL.move I1.mono (by conv => lhs; whnf) ?_
          refine GL.callFlT rfl (Frz.aggc (Frz.aggc (by exact Frz.pure rfl) (Frz.aggc (by exact Frz.pure rfl) (Frz.aggc (by exact Frz.pure rfl) (Frz.aggc (by exact Frz.pure rfl) Frz.aggn)))) (Frz.aggc (Frz.pure rfl) (Frz.aggc Frz.nils (Frz.aggc (Frz.pure rfl) (Frz.aggc (Frz.pure rfl) Frz.aggn))))) (right_ok (f1 [] (by rw [k1, k2]; rfl)) f2 f3) (FlatI.sca rfl) rfl rfl ?_
          refine GL.un I1.mono rfl ?_
          refine GL.doneT (by kernel_rfl) ?_
          refine goOn ?_
          refine Wp.condF rfl ?_
          refine Wp.skipI ?_
          refine ⟨_, (LessS.weak (LessS.upd (LessS.upd (LessS.upd (LessS.upd (LessS.upd (LessS.upd (LessS.upd (LessS.upd (LessS.upd (LessS.upd (LessS.upd (LessS.nil _) rfl) rfl) rfl) rfl) rfl) rfl) rfl) rfl) rfl) rfl) rfl) _), trivial, _, (congrArg (St.mk _) (effM_eq (Has.cons rfl (Has.cons rfl (Has.cons rfl Has.nil)))).symm)⟩
         ·skip
          obtain ⟨T0, f1, f2, f3⟩ := answer hb hp (by rw [List.length_append, List.length_take, List.length_drop]; omega) (hin (by omega) (by omega))
          refine Wp.regD ?_
          refine GL.loadW I1.mono (n := 4) rfl rfl rfl rfl (by simp) rfl rfl rfl ?_
          refine GL.move I1.mono (by conv => lhs; whnf) ?_
          refine GL.move I1.mono (by conv => lhs; whnf) ?_
          refine GL.move I1.mono (by conv => lhs; whnf) ?_
          refine GL.sliceTo I1.mono (sz := 1) rfl rfl rfl rfl (by intro e he; obtain ⟨a, -, rfl⟩ := List.mem_map.1 he; rfl) (by omega) (by omega) (by rfl) ?_
          refine GL.appendNil I1.mono rfl rfl rfl rfl (show LV.sl (em ni (r.take k.toNat)) = .sl [] by rw [k1]; rfl) ?_
          refine GL.move I1.mono (by conv => lhs; whnf) ?_
          refine GL.move I1.mono (by conv => lhs; whnf) ?_
          refine GL.addR I1.mono rfl rfl (by omega) ?_
          refine GL.sliceFrom I1.mono (sz := 1) rfl rfl rfl rfl (by intro e he; obtain ⟨a, -, rfl⟩ := List.mem_map.1 he; rfl) (by omega) (by omega) (by rfl) ?_
          refine GL.appendSl I1.mono (f := ni) (l := r.drop (k + 1).toNat) (sz := 1) (z := [.int .i64 0]) rfl rfl rfl rfl rfl (by decide) (Nat.le_of_ble_eq_true rfl) rfl rfl (fun _ => rfl) (fun _ => rfl) (k2) (by (rw [List.length_drop]; omega)) ?_
          intro g142
          refine GL.move I1.mono (by conv => lhs; whnf) ?_
          refine GL.move I1.mono (by conv => lhs; whnf) ?_
          refine GL.callFlT rfl (Frz.aggc (Frz.aggc (by exact Frz.pure rfl) (Frz.aggc (by exact Frz.pure rfl) (Frz.aggc (by exact Frz.pure rfl) (Frz.aggc (by exact Frz.pure rfl) Frz.aggn)))) (Frz.aggc (Frz.pure rfl) (Frz.aggc (Frz.whole rfl rfl rfl rfl (by rw [em_len])) (Frz.aggc (Frz.pure rfl) (Frz.aggc (Frz.pure rfl) Frz.aggn))))) (right_ok (f1 (r.drop (k + 1).toNat) (by rw [k1]; rfl)) f2 f3) (FlatI.sca rfl) rfl rfl ?_
          refine GL.un I1.mono rfl ?_
          refine GL.doneT (by kernel_rfl) ?_
          refine goOn ?_
          refine Wp.condF rfl ?_
          refine Wp.skipI ?_
          refine ⟨_, (LessS.weak (LessS.upd (LessS.upd (LessS.upd (LessS.upd (LessS.upd (LessS.upd (LessS.upd (LessS.upd (LessS.upd (LessS.upd (LessS.upd (LessS.nil _) rfl) rfl) rfl) rfl) rfl) rfl) rfl) rfl) rfl) rfl) rfl) _), trivial, _, (congrArg (St.mk _) (effM_eq (Has.cons rfl (Has.cons rfl (Has.cons rfl Has.nil)))).symm)⟩
        ·skip
         rcases (show r.drop (k + 1).toNat = [] ∨ 0 < (r.drop (k + 1).toNat).length by cases r.drop (k + 1).toNat with | nil => exact .inl rfl | cons a r => exact .inr (by simp)) with k2 | k2
         ·skip
          obtain ⟨T0, f1, f2, f3⟩ := answer hb hp (by rw [List.length_append, List.length_take, List.length_drop]; omega) (hin (by omega) (by omega))
          refine Wp.regD ?_
          refine GL.loadW I1.mono (n := 4) rfl rfl rfl rfl (by simp) rfl rfl rfl ?_
          refine GL.move I1.mono (by conv => lhs; whnf) ?_
          refine GL.move I1.mono (by conv => lhs; whnf) ?_
          refine GL.move I1.mono (by conv => lhs; whnf) ?_
          refine GL.sliceTo I1.mono (sz := 1) rfl rfl rfl rfl (by intro e he; obtain ⟨a, -, rfl⟩ := List.mem_map.1 he; rfl) (by omega) (by omega) (by rfl) ?_
          refine GL.appendSl I1.mono (f := ni) (l := r.take k.toNat) (sz := 1) (z := [.int .i64 0]) rfl rfl rfl rfl rfl (by decide) (Nat.le_of_ble_eq_true rfl) rfl rfl (fun _ => rfl) (fun _ => rfl) (k1) (by (rw [List.length_take]; omega)) ?_
          intro g137
          refine GL.move I1.mono (by conv => lhs; whnf) ?_
          refine GL.move I1.mono (by conv => lhs; whnf) ?_
          refine GL.addR I1.mono rfl rfl (by omega) ?_
          refine GL.sliceFrom I1.mono (sz := 1) rfl rfl rfl rfl (by intro e he; obtain ⟨a, -, rfl⟩ := List.mem_map.1 he; rfl) (by omega) (by omega) (by rfl) ?_
          refine GL.appendE I1.mono rfl rfl rfl rfl rfl rfl (show LV.sl (em ni (r.drop (k + 1).toNat)) = .sl [] by rw [k2]; rfl) ?_
          refine GL.move I1.mono (by conv => lhs; whnf) ?_
          refine GL.move I1.mono (by conv => lhs; whnf) ?_
          refine GL.callFlT rfl (Frz.aggc (Frz.aggc (by exact Frz.pure rfl) (Frz.aggc (by exact Frz.pure rfl) (Frz.aggc (by exact Frz.pure rfl) (Frz.aggc (by exact Frz.pure rfl) Frz.aggn)))) (Frz.aggc (Frz.pure rfl) (Frz.aggc (Frz.whole rfl rfl rfl rfl (by rw [em_len])) (Frz.aggc (Frz.pure rfl) (Frz.aggc (Frz.pure rfl) Frz.aggn))))) (right_ok (f1 (r.take k.toNat) (by rw [k2, List.append_nil])) f2 f3) (FlatI.sca rfl) rfl rfl ?_
          refine GL.un I1.mono rfl ?_
          refine GL.doneT (by kernel_rfl) ?_
          refine goOn ?_
          refine Wp.condF rfl ?_
          refine Wp.skipI ?_
          refine ⟨_, (LessS.weak (LessS.upd (LessS.upd (LessS.upd (LessS.upd (LessS.upd (LessS.upd (LessS.upd (LessS.upd (LessS.upd (LessS.upd (LessS.upd (LessS.nil _) rfl) rfl) rfl) rfl) rfl) rfl) rfl) rfl) rfl) rfl) rfl) _), trivial, _, (congrArg (St.mk _) (effM_eq (Has.cons rfl (Has.cons rfl (Has.cons rfl Has.nil)))).symm)⟩
         ·skip
          obtain ⟨T0, f1, f2, f3⟩ := answer hb hp (by rw [List.length_append, List.length_take, List.length_drop]; omega) (hin (by omega) (by omega))
          refine Wp.regD ?_
          refine GL.loadW I1.mono (n := 4) rfl rfl rfl rfl (by simp) rfl rfl rfl ?_
          refine GL.move I1.mono (by conv => lhs; whnf) ?_
          refine GL.move I1.mono (by conv => lhs; whnf) ?_
          refine GL.move I1.mono (by conv => lhs; whnf) ?_
          refine GL.sliceTo I1.mono (sz := 1) rfl rfl rfl rfl (by intro e he; obtain ⟨a, -, rfl⟩ := List.mem_map.1 he; rfl) (by omega) (by omega) (by rfl) ?_
          refine GL.appendSl I1.mono (f := ni) (l := r.take k.toNat) (sz := 1) (z := [.int .i64 0]) rfl rfl rfl rfl rfl (by decide) (Nat.le_of_ble_eq_true rfl) rfl rfl (fun _ => rfl) (fun _ => rfl) (k1) (by (rw [List.length_take]; omega)) ?_
          intro g137
          refine GL.move I1.mono (by conv => lhs; whnf) ?_
          refine GL.move I1.mono (by conv => lhs; whnf) ?_
          refine GL.addR I1.mono rfl rfl (by omega) ?_
          refine GL.sliceFrom I1.mono (sz := 1) rfl rfl rfl rfl (by intro e he; obtain ⟨a, -, rfl⟩ := List.mem_map.1 he; rfl) (by omega) (by omega) (by rfl) ?_
          refine GL.appendO I1.mono (f := ni) (l := r.take k.toNat) (l2 := r.drop (k + 1).toNat) (n2 := (r.drop (k + 1).toNat).length) (sz := 1) (z := [.int .i64 0]) rfl rfl rfl rfl rfl (by decide) (Nat.le_of_ble_eq_true rfl) rfl rfl rfl rfl rfl rfl rfl rfl rfl (fun _ => rfl) (fun _ => rfl) rfl (k2) (by rw [List.length_take, List.length_drop]; omega) ?_
          refine GL.move I1.mono (by conv => lhs; whnf) ?_
          refine GL.move I1.mono (by conv => lhs; whnf) ?_
          refine GL.callFlT rfl (Frz.aggc (Frz.aggc (by exact Frz.pure rfl) (Frz.aggc (by exact Frz.pure rfl) (Frz.aggc (by exact Frz.pure rfl) (Frz.aggc (by exact Frz.pure rfl) Frz.aggn)))) (Frz.aggc (Frz.pure rfl) (Frz.aggc (Frz.whole rfl rfl rfl rfl (by rw [em_len, List.length_append])) (Frz.aggc (Frz.pure rfl) (Frz.aggc (Frz.pure rfl) Frz.aggn))))) (right_ok (f1 (r.take k.toNat ++ r.drop (k + 1).toNat) rfl) f2 f3) (FlatI.sca rfl) rfl rfl ?_
          refine GL.un I1.mono rfl ?_
          refine GL.doneT (by kernel_rfl) ?_
          refine goOn ?_
          refine Wp.condF rfl ?_
          refine Wp.skipI ?_
          refine ⟨_, (LessS.weak (LessS.upd (LessS.upd (LessS.upd (LessS.upd (LessS.upd (LessS.upd (LessS.upd (LessS.upd (LessS.upd (LessS.upd (LessS.upd (LessS.nil _) rfl) rfl) rfl) rfl) rfl) rfl) rfl) rfl) rfl) rfl) rfl) _), trivial, _, (congrArg (St.mk _) (effM_eq (Has.cons rfl (Has.cons rfl (Has.cons rfl Has.nil)))).symm)⟩
       ·replace h131 := of_decide_eq_false h131
        refine Wp.seqI ?_
        obtain rfl := hout (by omega)
        refine Wp.regI I1.mono ?_
        refine GL.move I1.mono (by conv => lhs; whnf) ?_
        refine GL.move I1.mono (by conv => lhs; whnf) ?_
        refine GL.guardT rfl ?_
        refine GL.move I1.mono (by conv => lhs; whnf) ?_
        refine GL.guardT rfl ?_
        refine GL.bin I1.mono (v := .bool false) (by kernel_rfl) ?_
        refine GL.pick I1.mono rfl (by conv => lhs; whnf) ?_
        refine GL.doneF ?_
        refine goOn ?_
        refine Wp.condF rfl ?_
        refine Wp.skipI ?_
        refine ⟨_, (LessS.weak (LessS.upd (LessS.upd (LessS.upd (LessS.upd (LessS.upd (LessS.upd (LessS.upd (LessS.upd (LessS.upd (LessS.upd (LessS.upd (LessS.nil _) rfl) rfl) rfl) rfl) rfl) rfl) rfl) rfl) rfl) rfl) rfl) _), trivial, _, (congrArg (St.mk _) (effM_eq (Has.cons rfl (Has.cons rfl (Has.cons rfl Has.nil)))).symm)⟩
      ·rw [h126]
       replace h126 := of_decide_eq_false h126
       refine GL.guardF rfl ?_
       refine GL.guardF rfl ?_
       refine GL.guardF rfl ?_
       refine GL.guardF rfl ?_
       refine GL.pick I1.mono rfl (by conv => lhs; whnf) ?_
       refine GL.doneF ?_
       refine goOn ?_
       refine Wp.condF rfl ?_
       refine Wp.seqI ?_
       obtain rfl := hout (by omega)
       refine Wp.regI I1.mono ?_
       refine GL.move I1.mono (by conv => lhs; whnf) ?_
       refine GL.move I1.mono (by conv => lhs; whnf) ?_
       refine GL.guardT rfl ?_
       refine GL.move I1.mono (by conv => lhs; whnf) ?_
       refine GL.guardT rfl ?_
       refine GL.bin I1.mono (v := .bool false) (by kernel_rfl) ?_
       refine GL.pick I1.mono rfl (by conv => lhs; whnf) ?_
       refine GL.doneF ?_
       refine goOn ?_
       refine Wp.condF rfl ?_
       refine Wp.skipI ?_
       refine ⟨_, (LessS.weak (LessS.upd (LessS.upd (LessS.upd (LessS.upd (LessS.upd (LessS.upd (LessS.upd (LessS.upd (LessS.upd (LessS.upd (LessS.upd (LessS.nil _) rfl) rfl) rfl) rfl) rfl) rfl) rfl) rfl) rfl) rfl) rfl) _), trivial, _, (congrArg (St.mk _) (effM_eq (Has.cons rfl (Has.cons rfl (Has.cons rfl Has.nil)))).symm)⟩
     ·rintro _ ⟨-, m0, rfl⟩
      refine Wp.seqI ?_
      refine Wp.regI I1.mono ?_
      refine GL.assign I1.mono (by conv => lhs; whnf) ?_
      refine GL.doneF ?_
      refine goOn ?_
      refine Wp.blockI ?_
      refine Wp.loopI I1.mono (α := Int) (fun m st => (-1 ≤ m ∧ m ≤ s.length + 2) ∧ ∃ m0, st = ⟨(updS (updS (updS (updS (updS (updS (updS (updS (updS (updS (updS (updS (fun _ => LV.undef) 3 (.sl (em ni z3))) 4 (.int .i64 c)) 5 (.int .i64 stop)) 13 (.ref 832 g13 0 0)) 14 (.sl (em ni r))) 15 (.sl (em ni s))) 16 (.ref 2688 gt 0 0)) 17 (.ref 2944 gu 0 0)) 18 (.int .i64 (j : Int))) 21 (.int .i64 (1 + within stop ((I.stops.length : Int) + 1)))) 22 (.int .i64 k)) 25 (.int .i64 m)), effM m0 [(832, ⟨g13, false, .var, 4, [ic I]⟩), (2688, ⟨gt, false, .var, 8, [tabL I c (r.length : Int) (heads I c r) (tails I c r)]⟩), (2944, ⟨gu, false, .var, 8, [tabL I c (s.length : Int) (heads I c s) (tails I c s)]⟩)]⟩) (fun m => (s.length + 2 - m).toNat) (-1) ⟨_, (LessS.weak (LessS.upd (LessS.upd (LessS.upd (LessS.upd (LessS.upd (LessS.upd (LessS.upd (LessS.upd (LessS.upd (LessS.upd (LessS.upd (LessS.upd (LessS.nil _) rfl) rfl) rfl) rfl) rfl) rfl) rfl) rfl) rfl) rfl) rfl) rfl) _), (by omega), _, (congrArg (St.mk _) (effM_eq (Has.cons rfl (Has.cons rfl (Has.cons rfl Has.nil)))).symm)⟩ ?_
      rintro m _ ⟨hm, m0, rfl⟩
      refine Wp.seqI ?_
      refine Wp.seqI ?_
      refine Wp.regI I1.mono ?_
      refine GL.move I1.mono (by conv => lhs; whnf) ?_
      refine GL.move I1.mono (by conv => lhs; whnf) ?_
      refine GL.lenF I1.mono rfl rfl (em_len _ _) ?_
      refine GL.addR I1.mono rfl rfl (by omega) ?_
      refine GL.bin I1.mono rfl ?_
      refine GL.doneF ?_
      refine goOn ?_
      refine Wp.condI rfl (fun h156 => ?_) (fun h156 => ?_)
      ·replace h156 := of_decide_eq_true h156
       refine Wp.skipI ?_
       refine goOn ?_
       refine Wp.seqI ?_
       refine Wp.blockI ?_
       refine Wp.seqI ?_
       have hi := tcross_ok I c r.length (heads I c r) (tails I c r) ht.short I c s.length (heads I c s) (tails I c s) k m
       have hin := fun h0 h1 m0 m1 => t_cross hb hp hsd hc0 hc1 (l := r) (l2 := s) (by omega) (by omega) (k := k) (m := m) h0 h1 m0 m1
       have hout : (k < 0 ∨ r.length < k) ∨ (m < 0 ∨ s.length < m) → meet I c (headAt (heads I c r) k) (tailAt (tails I c s) m) = none := fun h => by
         rcases h with h | h
         · rw [headAt_out h, meet_zh]
         · rw [tailAt_out h, meet_zt]
       generalize meet I c (headAt (heads I c r) k) (tailAt (tails I c s) m) = o at hi hin hout
       refine Wp.regI I1.mono ?_
       refine GL.move I1.mono (by conv => lhs; whnf) ?_
       refine GL.move I1.mono (by conv => lhs; whnf) ?_
       refine GL.move I1.mono (by conv => lhs; whnf) ?_
       refine GL.move I1.mono (by conv => lhs; whnf) ?_
       refine GL.callFl I1.mono rfl (Frz.aggc (Frz.ref rfl rfl rfl rfl (Frz.pures rfl)) (Frz.aggc (Frz.pure rfl) (Frz.aggc (Frz.ref rfl rfl rfl rfl (Frz.pures rfl)) (Frz.aggc (Frz.pure rfl) Frz.aggn)))) (hi) (flat_ib _ _) rfl rfl ?_
       refine GL.move I1.mono (by conv => lhs; whnf) ?_
       refine GL.extract I1.mono rfl rfl ?_
       refine GL.extract I1.mono rfl rfl ?_
       refine GL.assign I1.mono (by conv => lhs; whnf) ?_
       refine GL.assign I1.mono (by conv => lhs; whnf) ?_
       refine GL.doneF ?_
       refine goOn ?_
       refine Wp.seqI ?_
       refine Wp.regI I1.mono ?_
       refine GL.move I1.mono (by conv => lhs; whnf) ?_
       refine GL.bin I1.mono rfl ?_
       refine GL.move I1.mono (by conv => lhs; whnf) ?_
       refine GL.splitAt 169 rfl (fun h169 => ?_) (fun h169 => ?_)
       ·rw [h169]
        replace h169 := of_decide_eq_true h169
        refine GL.guardT rfl ?_
        refine GL.move I1.mono (by conv => lhs; whnf) ?_
        refine GL.guardT rfl ?_
        refine GL.move I1.mono (by conv => lhs; whnf) ?_
        refine GL.guardT rfl ?_
        refine GL.lenF I1.mono rfl rfl (em_len _ _) ?_
        refine GL.guardT rfl ?_
        refine GL.bin I1.mono rfl ?_
        refine GL.pick I1.mono rfl (by conv => lhs; whnf) ?_
        refine GL.move I1.mono (by conv => lhs; whnf) ?_
        refine GL.splitAt 175 rfl (fun h175 => ?_) (fun h175 => ?_)
        ·rw [h175]
         replace h175 := of_decide_eq_true h175
         refine GL.guardT rfl ?_
         refine GL.move I1.mono (by conv => lhs; whnf) ?_
         refine GL.guardT rfl ?_
         refine GL.bin I1.mono rfl ?_
         refine GL.pick I1.mono rfl (by conv => lhs; whnf) ?_
         refine GL.move I1.mono (by conv => lhs; whnf) ?_
         refine GL.splitAt 179 rfl (fun h179 => ?_) (fun h179 => ?_)
         ·rw [h179]
          replace h179 := of_decide_eq_true h179
          refine GL.guardT rfl ?_
          refine GL.move I1.mono (by conv => lhs; whnf) ?_
          refine GL.guardT rfl ?_
          refine GL.move I1.mono (by conv => lhs; whnf) ?_
          refine GL.guardT rfl ?_
          refine GL.lenF I1.mono rfl rfl (em_len _ _) ?_
          refine GL.guardT rfl ?_
          refine GL.bin I1.mono rfl ?_
          refine GL.pick I1.mono rfl (by conv => lhs; whnf) ?_
          refine GL.doneF ?_
          refine goOn ?_
          refine Wp.condI rfl (fun h184 => ?_) (fun h184 => ?_)
          ·replace h184 := of_decide_eq_true h184
           refine Wp.seqI ?_
           rcases (show r.take k.toNat = [] ∨ 0 < (r.take k.toNat).length by cases r.take k.toNat with | nil => exact .inl rfl | cons a r => exact .inr (by simp)) with k1 | k1
           ·skip
            rcases (show s.drop m.toNat = [] ∨ 0 < (s.drop m.toNat).length by cases s.drop m.toNat with | nil => exact .inl rfl | cons a r => exact .inr (by simp)) with k2 | k2
            ·skip
             obtain ⟨T0, f1, f2, f3⟩ := answer hb hp (by rw [List.length_append, List.length_take, List.length_drop]; omega) (hin (by omega) (by omega) (by omega) (by omega))
             refine Wp.regD ?_
             refine GL.loadW I1.mono (n := 4) rfl rfl rfl rfl (by simp) rfl rfl rfl ?_
             refine GL.move I1.mono (by conv => lhs; whnf) ?_
             refine GL.move I1.mono (by conv => lhs; whnf) ?_
             refine GL.move I1.mono (by conv => lhs; whnf) ?_
             refine GL.sliceTo I1.mono (sz := 1) rfl rfl rfl rfl (by intro e he; obtain ⟨a, -, rfl⟩ := List.mem_map.1 he; rfl) (by omega) (by omega) (by rfl) ?_
             refine GL.appendNil I1.mono rfl rfl rfl rfl (show LV.sl (em ni (r.take k.toNat)) = .sl [] by rw [k1]; rfl) ?_
             refine GL.move I1.mono (by conv => lhs; whnf) ?_
             refine GL.move I1.mono (by conv => lhs; whnf) ?_
             refine GL.sliceFrom I1.mono (sz := 1) rfl rfl rfl rfl (by intro e he; obtain ⟨a, -, rfl⟩ := List.mem_map.1 he; rfl) (by omega) (by omega) (by rfl) ?_
             refine GL.appendNil I1.mono rfl rfl rfl rfl (show LV.sl (em ni (s.drop m.toNat)) = .sl [] by rw [k2]; rfl) ?_
             refine GL.move I1.mono (by conv => lhs; whnf) ?_
             refine GL.move I1.mono (by conv => lhs; whnf) ?_
             refine GL.callFlT rfl (Frz.aggc (Frz.aggc (by exact Frz.pure rfl) (Frz.aggc (by exact Frz.pure rfl) (Frz.aggc (by exact Frz.pure rfl) (Frz.aggc (by exact Frz.pure rfl) Frz.aggn)))) (Frz.aggc (Frz.pure rfl) (Frz.aggc Frz.nils (Frz.aggc (Frz.pure rfl) (Frz.aggc (Frz.pure rfl) Frz.aggn))))) (right_ok (f1 [] (by rw [k1, k2]; rfl)) f2 f3) (FlatI.sca rfl) rfl rfl ?_
             refine GL.un I1.mono rfl ?_
             refine GL.doneT (by kernel_rfl) ?_
             refine goOn ?_
             refine Wp.condF rfl ?_
             refine Wp.skipI ?_
             refine blockX.normal ?_
             refine goOn ?_
             refine Wp.regI I1.mono ?_
             refine GL.move I1.mono (by conv => lhs; whnf) ?_
             refine GL.addR I1.mono rfl rfl (by omega) ?_
             refine GL.assign I1.mono (by conv => lhs; whnf) ?_
             refine GL.doneF ?_
             refine ⟨(m + 1), (by dsimp only; omega), _, (LessS.weak (LessS.upd (LessS.upd (LessS.upd (LessS.upd (LessS.upd (LessS.upd (LessS.upd (LessS.upd (LessS.upd (LessS.upd (LessS.upd (LessS.upd (LessS.nil _) rfl) rfl) rfl) rfl) rfl) rfl) rfl) rfl) rfl) rfl) rfl) rfl) _), (by omega), _, (congrArg (St.mk _) (effM_eq (Has.cons rfl (Has.cons rfl (Has.cons rfl Has.nil)))).symm)⟩
            ·skip
             obtain ⟨T0, f1, f2, f3⟩ := answer hb hp (by rw [List.length_append, List.length_take, List.length_drop]; omega) (hin (by omega) (by omega) (by omega) (by omega))
             refine Wp.regD ?_
             refine GL.loadW I1.mono (n := 4) rfl rfl rfl rfl (by simp) rfl rfl rfl ?_
             refine GL.move I1.mono (by conv => lhs; whnf) ?_
             refine GL.move I1.mono (by conv => lhs; whnf) ?_
             refine GL.move I1.mono (by conv => lhs; whnf) ?_
             refine GL.sliceTo I1.mono (sz := 1) rfl rfl rfl rfl (by intro e he; obtain ⟨a, -, rfl⟩ := List.mem_map.1 he; rfl) (by omega) (by omega) (by rfl) ?_
             refine GL.appendNil I1.mono rfl rfl rfl rfl (show LV.sl (em ni (r.take k.toNat)) = .sl [] by rw [k1]; rfl) ?_
             refine GL.move I1.mono (by conv => lhs; whnf) ?_
             refine GL.move I1.mono (by conv => lhs; whnf) ?_
             refine GL.sliceFrom I1.mono (sz := 1) rfl rfl rfl rfl (by intro e he; obtain ⟨a, -, rfl⟩ := List.mem_map.1 he; rfl) (by omega) (by omega) (by rfl) ?_
             refine GL.appendSl I1.mono (f := ni) (l := s.drop m.toNat) (sz := 1) (z := [.int .i64 0]) rfl rfl rfl rfl rfl (by decide) (Nat.le_of_ble_eq_true rfl) rfl rfl (fun _ => rfl) (fun _ => rfl) (k2) (by (rw [List.length_drop]; omega)) ?_
             intro g194
             refine GL.move I1.mono (by conv => lhs; whnf) ?_
             refine GL.move I1.mono (by conv => lhs; whnf) ?_
             refine GL.callFlT rfl (Frz.aggc (Frz.aggc (by exact Frz.pure rfl) (Frz.aggc (by exact Frz.pure rfl) (Frz.aggc (by exact Frz.pure rfl) (Frz.aggc (by exact Frz.pure rfl) Frz.aggn)))) (Frz.aggc (Frz.pure rfl) (Frz.aggc (Frz.whole rfl rfl rfl rfl (by rw [em_len])) (Frz.aggc (Frz.pure rfl) (Frz.aggc (Frz.pure rfl) Frz.aggn))))) (right_ok (f1 (s.drop m.toNat) (by rw [k1]; rfl)) f2 f3) (FlatI.sca rfl) rfl rfl ?_
             refine GL.un I1.mono rfl ?_
             refine GL.doneT (by kernel_rfl) ?_
             refine goOn ?_
             refine Wp.condF rfl ?_
             refine Wp.skipI ?_
             refine blockX.normal ?_
             refine goOn ?_
             refine Wp.regI I1.mono ?_
             refine GL.move I1.mono (by conv => lhs; whnf) ?_
             refine GL.addR I1.mono rfl rfl (by omega) ?_
             refine GL.assign I1.mono (by conv => lhs; whnf) ?_
             refine GL.doneF ?_
             refine ⟨(m + 1), (by dsimp only; omega), _, (LessS.weak (LessS.upd (LessS.upd (LessS.upd (LessS.upd (LessS.upd (LessS.upd (LessS.upd (LessS.upd (LessS.upd (LessS.upd (LessS.upd (LessS.upd (LessS.nil _) rfl) rfl) rfl) rfl) rfl) rfl) rfl) rfl) rfl) rfl) rfl) rfl) _), (by omega), _, (congrArg (St.mk _) (effM_eq (Has.cons rfl (Has.cons rfl (Has.cons rfl Has.nil)))).symm)⟩
           ·skip
            rcases (show s.drop m.toNat = [] ∨ 0 < (s.drop m.toNat).length by cases s.drop m.toNat with | nil => exact .inl rfl | cons a r => exact .inr (by simp)) with k2 | k2
            ·skip
             obtain ⟨T0, f1, f2, f3⟩ := answer hb hp (by rw [List.length_append, List.length_take, List.length_drop]; omega) (hin (by omega) (by omega) (by omega) (by omega))
             refine Wp.regD ?_
             refine GL.loadW I1.mono (n := 4) rfl rfl rfl rfl (by simp) rfl rfl rfl ?_
             refine GL.move I1.mono (by conv => lhs; whnf) ?_
             refine GL.move I1.mono (by conv => lhs; whnf) ?_
             refine GL.move I1.mono (by conv => lhs; whnf) ?_
             refine GL.sliceTo I1.mono (sz := 1) rfl rfl rfl rfl (by intro e he; obtain ⟨a, -, rfl⟩ := List.mem_map.1 he; rfl) (by omega) (by omega) (by rfl) ?_
             refine GL.appendSl I1.mono (f := ni) (l := r.take k.toNat) (sz := 1) (z := [.int .i64 0]) rfl rfl rfl rfl rfl (by decide) (Nat.le_of_ble_eq_true rfl) rfl rfl (fun _ => rfl) (fun _ => rfl) (k1) (by (rw [List.length_take]; omega)) ?_
             intro g190
             refine GL.move I1.mono (by conv => lhs; whnf) ?_
             refine GL.move I1.mono (by conv => lhs; whnf) ?_
             refine GL.sliceFrom I1.mono (sz := 1) rfl rfl rfl rfl (by intro e he; obtain ⟨a, -, rfl⟩ := List.mem_map.1 he; rfl) (by omega) (by omega) (by rfl) ?_
             refine GL.appendE I1.mono rfl rfl rfl rfl rfl rfl (show LV.sl (em ni (s.drop m.toNat)) = .sl [] by rw [k2]; rfl) ?_
             refine GL.move I1.mono (by conv => lhs; whnf) ?_
             refine GL.move I1.mono (by conv => lhs; whnf) ?_
             refine GL.callFlT rfl (Frz.aggc (Frz.aggc (by exact Frz.pure rfl) (Frz.aggc (by exact Frz.pure rfl) (Frz.aggc (by exact Frz.pure rfl) (Frz.aggc (by exact Frz.pure rfl) Frz.aggn)))) (Frz.aggc (Frz.pure rfl) (Frz.aggc (Frz.whole rfl rfl rfl rfl (by rw [em_len])) (Frz.aggc (Frz.pure rfl) (Frz.aggc (Frz.pure rfl) Frz.aggn))))) (right_ok (f1 (r.take k.toNat) (by rw [k2, List.append_nil])) f2 f3) (FlatI.sca rfl) rfl rfl ?_
             refine GL.un I1.mono rfl ?_
             refine GL.doneT (by kernel_rfl) ?_
             refine goOn ?_
             refine Wp.condF rfl ?_
             refine Wp.skipI ?_
             refine blockX.normal ?_
             refine goOn ?_
             refine Wp.regI I1.mono ?_
             refine GL.move I1.mono (by conv => lhs; whnf) ?_
             refine GL.addR I1.mono rfl rfl (by omega) ?_
             refine GL.assign I1.mono (by conv => lhs; whnf) ?_
             refine GL.doneF ?_
             refine ⟨(m + 1), (by dsimp only; omega), _, (LessS.weak (LessS.upd (LessS.upd (LessS.upd (LessS.upd (LessS.upd (LessS.upd (LessS.upd (LessS.upd (LessS.upd (LessS.upd (LessS.upd (LessS.upd (LessS.nil _) rfl) rfl) rfl) rfl) rfl) rfl) rfl) rfl) rfl) rfl) rfl) rfl) _), (by omega), _, (congrArg (St.mk _) (effM_eq (Has.cons rfl (Has.cons rfl (Has.cons rfl Has.nil)))).symm)⟩
            ·skip
             obtain ⟨T0, f1, f2, f3⟩ := answer hb hp (by rw [List.length_append, List.length_take, List.length_drop]; omega) (hin (by omega) (by omega) (by omega) (by omega))
             refine Wp.regD ?_
             refine GL.loadW I1.mono (n := 4) rfl rfl rfl rfl (by simp) rfl rfl rfl ?_
             refine GL.move I1.mono (by conv => lhs; whnf) ?_
             refine GL.move I1.mono (by conv => lhs; whnf) ?_
             refine GL.move I1.mono (by conv => lhs; whnf) ?_
             refine GL.sliceTo I1.mono (sz := 1) rfl rfl rfl rfl (by intro e he; obtain ⟨a, -, rfl⟩ := List.mem_map.1 he; rfl) (by omega) (by omega) (by rfl) ?_
             refine GL.appendSl I1.mono (f := ni) (l := r.take k.toNat) (sz := 1) (z := [.int .i64 0]) rfl rfl rfl rfl rfl (by decide) (Nat.le_of_ble_eq_true rfl) rfl rfl (fun _ => rfl) (fun _ => rfl) (k1) (by (rw [List.length_take]; omega)) ?_
             intro g190
             refine GL.move I1.mono (by conv => lhs; whnf) ?_
             refine GL.move I1.mono (by conv => lhs; whnf) ?_
             refine GL.sliceFrom I1.mono (sz := 1) rfl rfl rfl rfl (by intro e he; obtain ⟨a, -, rfl⟩ := List.mem_map.1 he; rfl) (by omega) (by omega) (by rfl) ?_
             refine GL.appendO I1.mono (f := ni) (l := r.take k.toNat) (l2 := s.drop m.toNat) (n2 := (s.drop m.toNat).length) (sz := 1) (z := [.int .i64 0]) rfl rfl rfl rfl rfl (by decide) (Nat.le_of_ble_eq_true rfl) rfl rfl rfl rfl rfl rfl rfl rfl rfl (fun _ => rfl) (fun _ => rfl) rfl (k2) (by rw [List.length_take, List.length_drop]; omega) ?_
             refine GL.move I1.mono (by conv => lhs; whnf) ?_
             refine GL.move I1.mono (by conv => lhs; whnf) ?_
             refine GL.callFlT rfl (Frz.aggc (Frz.aggc (by exact Frz.pure rfl) (Frz.aggc (by exact Frz.pure rfl) (Frz.aggc (by exact Frz.pure rfl) (Frz.aggc (by exact Frz.pure rfl) Frz.aggn)))) (Frz.aggc (Frz.pure rfl) (Frz.aggc (Frz.whole rfl rfl rfl rfl (by rw [em_len, List.length_append])) (Frz.aggc (Frz.pure rfl) (Frz.aggc (Frz.pure rfl) Frz.aggn))))) (right_ok (f1 (r.take k.toNat ++ s.drop m.toNat) rfl) f2 f3) (FlatI.sca rfl) rfl rfl ?_
             refine GL.un I1.mono rfl ?_
             refine GL.doneT (by kernel_rfl) ?_
             refine goOn ?_
             refine Wp.condF rfl ?_
             refine Wp.skipI ?_
             refine blockX.normal ?_
             refine goOn ?_
             refine Wp.regI I1.mono ?_
             refine GL.move I1.mono (by conv => lhs; whnf) ?_
             refine GL.addR I1.mono rfl rfl (by omega) ?_
             refine GL.assign I1.mono (by conv => lhs; whnf) ?_
             refine GL.doneF ?_
             refine ⟨(m + 1), (by dsimp only; omega), _, (LessS.weak (LessS.upd (LessS.upd (LessS.upd (LessS.upd (LessS.upd (LessS.upd (LessS.upd (LessS.upd (LessS.upd (LessS.upd (LessS.upd (LessS.upd (LessS.nil _) rfl) rfl) rfl) rfl) rfl) rfl) rfl) rfl) rfl) rfl) rfl) rfl) _), (by omega), _, (congrArg (St.mk _) (effM_eq (Has.cons rfl (Has.cons rfl (Has.cons rfl Has.nil)))).symm)⟩
          ·replace h184 := of_decide_eq_false h184
           refine Wp.seqI ?_
           obtain rfl := hout (by omega)
           refine Wp.regI I1.mono ?_
           refine GL.move I1.mono (by conv => lhs; whnf) ?_
           refine GL.move I1.mono (by conv => lhs; whnf) ?_
           refine GL.guardT rfl ?_
           refine GL.move I1.mono (by conv => lhs; whnf) ?_
           refine GL.guardT rfl ?_
           refine GL.bin I1.mono (v := .bool false) (by kernel_rfl) ?_
           refine GL.pick I1.mono rfl (by conv => lhs; whnf) ?_
           refine GL.doneF ?_
           refine goOn ?_
           refine Wp.condF rfl ?_
           refine Wp.skipI ?_
           refine blockX.normal ?_
           refine goOn ?_
           refine Wp.regI I1.mono ?_
           refine GL.move I1.mono (by conv => lhs; whnf) ?_
           refine GL.addR I1.mono rfl rfl (by omega) ?_
           refine GL.assign I1.mono (by conv => lhs; whnf) ?_
           refine GL.doneF ?_
           refine ⟨(m + 1), (by dsimp only; omega), _, (LessS.weak (LessS.upd (LessS.upd (LessS.upd (LessS.upd (LessS.upd (LessS.upd (LessS.upd (LessS.upd (LessS.upd (LessS.upd (LessS.upd (LessS.upd (LessS.nil _) rfl) rfl) rfl) rfl) rfl) rfl) rfl) rfl) rfl) rfl) rfl) rfl) _), (by omega), _, (congrArg (St.mk _) (effM_eq (Has.cons rfl (Has.cons rfl (Has.cons rfl Has.nil)))).symm)⟩
         ·rw [h179]
          replace h179 := of_decide_eq_false h179
          refine GL.guardF rfl ?_
          refine GL.guardF rfl ?_
          refine GL.guardF rfl ?_
          refine GL.guardF rfl ?_
          refine GL.pick I1.mono rfl (by conv => lhs; whnf) ?_
          refine GL.doneF ?_
          refine goOn ?_
          refine Wp.condF rfl ?_
          refine Wp.seqI ?_
          obtain rfl := hout (by omega)
          refine Wp.regI I1.mono ?_
          refine GL.move I1.mono (by conv => lhs; whnf) ?_
          refine GL.move I1.mono (by conv => lhs; whnf) ?_
          refine GL.guardT rfl ?_
          refine GL.move I1.mono (by conv => lhs; whnf) ?_
          refine GL.guardT rfl ?_
          refine GL.bin I1.mono (v := .bool false) (by kernel_rfl) ?_
          refine GL.pick I1.mono rfl (by conv => lhs; whnf) ?_
          refine GL.doneF ?_
          refine goOn ?_
          refine Wp.condF rfl ?_
          refine Wp.skipI ?_
          refine blockX.normal ?_
          refine goOn ?_
          refine Wp.regI I1.mono ?_
          refine GL.move I1.mono (by conv => lhs; whnf) ?_
          refine GL.addR I1.mono rfl rfl (by omega) ?_
          refine GL.assign I1.mono (by conv => lhs; whnf) ?_
          refine GL.doneF ?_
          refine ⟨(m + 1), (by dsimp only; omega), _, (LessS.weak (LessS.upd (LessS.upd (LessS.upd (LessS.upd (LessS.upd (LessS.upd (LessS.upd (LessS.upd (LessS.upd (LessS.upd (LessS.upd (LessS.upd (LessS.nil _) rfl) rfl) rfl) rfl) rfl) rfl) rfl) rfl) rfl) rfl) rfl) rfl) _), (by omega), _, (congrArg (St.mk _) (effM_eq (Has.cons rfl (Has.cons rfl (Has.cons rfl Has.nil)))).symm)⟩
        ·rw [h175]
         replace h175 := of_decide_eq_false h175
         refine GL.guardF rfl ?_
         refine GL.guardF rfl ?_
         refine GL.pick I1.mono rfl (by conv => lhs; whnf) ?_
         refine GL.move I1.mono (by conv => lhs; whnf) ?_
         refine GL.guardF rfl ?_
         refine GL.guardF rfl ?_
         refine GL.guardF rfl ?_
         refine GL.guardF rfl ?_
         refine GL.pick I1.mono rfl (by conv => lhs; whnf) ?_
         refine GL.doneF ?_
         refine goOn ?_
         refine Wp.condF rfl ?_
         refine Wp.seqI ?_
         obtain rfl := hout (by omega)
         refine Wp.regI I1.mono ?_
         refine GL.move I1.mono (by conv => lhs; whnf) ?_
         refine GL.move I1.mono (by conv => lhs; whnf) ?_
         refine GL.guardT rfl ?_
         refine GL.move I1.mono (by conv => lhs; whnf) ?_
         refine GL.guardT rfl ?_
         refine GL.bin I1.mono (v := .bool false) (by kernel_rfl) ?_
         refine GL.pick I1.mono rfl (by conv => lhs; whnf) ?_
         refine GL.doneF ?_
         refine goOn ?_
         refine Wp.condF rfl ?_
         refine Wp.skipI ?_
         refine blockX.normal ?_
         refine goOn ?_
         refine Wp.regI I1.mono ?_
         refine GL.move I1.mono (by conv => lhs; whnf) ?_
         refine GL.addR I1.mono rfl rfl (by omega) ?_
         refine GL.assign I1.mono (by conv => lhs; whnf) ?_
         refine GL.doneF ?_
         refine ⟨(m + 1), (by dsimp only; omega), _, (LessS.weak (LessS.upd (LessS.upd (LessS.upd (LessS.upd (LessS.upd (LessS.upd (LessS.upd (LessS.upd (LessS.upd (LessS.upd (LessS.upd (LessS.upd (LessS.nil _) rfl) rfl) rfl) rfl) rfl) rfl) rfl) rfl) rfl) rfl) rfl) rfl) _), (by omega), _, (congrArg (St.mk _) (effM_eq (Has.cons rfl (Has.cons rfl (Has.cons rfl Has.nil)))).symm)⟩
       ·rw [h169]
        replace h169 := of_decide_eq_false h169
        refine GL.guardF rfl ?_
        refine GL.guardF rfl ?_
        refine GL.guardF rfl ?_
        refine GL.guardF rfl ?_
        refine GL.pick I1.mono rfl (by conv => lhs; whnf) ?_
        refine GL.move I1.mono (by conv => lhs; whnf) ?_
        refine GL.guardF rfl ?_
        refine GL.guardF rfl ?_
        refine GL.pick I1.mono rfl (by conv => lhs; whnf) ?_
        refine GL.move I1.mono (by conv => lhs; whnf) ?_
        refine GL.guardF rfl ?_
        refine GL.guardF rfl ?_
        refine GL.guardF rfl ?_
        refine GL.guardF rfl ?_
        refine GL.pick I1.mono rfl (by conv => lhs; whnf) ?_
        refine GL.doneF ?_
        refine goOn ?_
        refine Wp.condF rfl ?_
        refine Wp.seqI ?_
        obtain rfl := hout (by omega)
        refine Wp.regI I1.mono ?_
        refine GL.move I1.mono (by conv => lhs; whnf) ?_
        refine GL.move I1.mono (by conv => lhs; whnf) ?_
        refine GL.guardT rfl ?_
        refine GL.move I1.mono (by conv => lhs; whnf) ?_
        refine GL.guardT rfl ?_
        refine GL.bin I1.mono (v := .bool false) (by kernel_rfl) ?_
        refine GL.pick I1.mono rfl (by conv => lhs; whnf) ?_
        refine GL.doneF ?_
        refine goOn ?_
        refine Wp.condF rfl ?_
        refine Wp.skipI ?_
        refine blockX.normal ?_
        refine goOn ?_
        refine Wp.regI I1.mono ?_
        refine GL.move I1.mono (by conv => lhs; whnf) ?_
        refine GL.addR I1.mono rfl rfl (by omega) ?_
        refine GL.assign I1.mono (by conv => lhs; whnf) ?_
        refine GL.doneF ?_
        refine ⟨(m + 1), (by dsimp only; omega), _, (LessS.weak (LessS.upd (LessS.upd (LessS.upd (LessS.upd (LessS.upd (LessS.upd (LessS.upd (LessS.upd (LessS.upd (LessS.upd (LessS.upd (LessS.upd (LessS.nil _) rfl) rfl) rfl) rfl) rfl) rfl) rfl) rfl) rfl) rfl) rfl) rfl) _), (by omega), _, (congrArg (St.mk _) (effM_eq (Has.cons rfl (Has.cons rfl (Has.cons rfl Has.nil)))).symm)⟩
      ·replace h156 := of_decide_eq_false h156
       refine Wp.exitI ?_
       refine thenX.exit ?_
       refine thenX.exit ?_
       refine blockX.out ?_
       refine blockX.normal ?_
       refine goOn ?_
       refine Wp.regI I1.mono ?_
       refine GL.move I1.mono (by conv => lhs; whnf) ?_
       refine GL.addR I1.mono rfl rfl (by omega) ?_
       refine GL.assign I1.mono (by conv => lhs; whnf) ?_
       refine GL.doneF ?_
       refine ⟨(k + 1), (by dsimp only; omega), _, (LessS.weak (LessS.upd (LessS.upd (LessS.upd (LessS.upd (LessS.upd (LessS.upd (LessS.upd (LessS.upd (LessS.upd (LessS.upd (LessS.upd (LessS.nil _) rfl) rfl) rfl) rfl) rfl) rfl) rfl) rfl) rfl) rfl) rfl) _), (by omega), _, (congrArg (St.mk _) (effM_eq (Has.cons rfl (Has.cons rfl (Has.cons rfl Has.nil)))).symm)⟩
   ·replace h85 := of_decide_eq_false h85
    refine Wp.exitI ?_
    refine thenX.exit ?_
    refine thenX.exit ?_
    refine blockX.out ?_
    refine goOn ?_
    refine Wp.seqI ?_
    refine Wp.regI I1.mono ?_
    refine GL.loadW I1.mono (n := 4) rfl rfl rfl rfl (by simp) rfl rfl rfl ?_
    refine GL.move I1.mono (by conv => lhs; whnf) ?_
    refine GL.call0 I1.mono rfl (Frz.aggc (by exact Frz.pures rfl) (Frz.aggc (by exact Frz.pure rfl) (Frz.aggn))) (hp2) rfl rfl (fun _ => rfl) ?_
    refine GL.assign I1.mono (by conv => lhs; whnf) ?_
    refine GL.doneF ?_
    refine goOn ?_
    refine Wp.regI I1.mono ?_
    refine GL.move I1.mono (by conv => lhs; whnf) ?_
    refine GL.move I1.mono (by conv => lhs; whnf) ?_
    refine GL.inl I1.mono (nb' := 1000000) rfl ⟨rfl, rfl, fun c hc => ?_⟩
    unfold Try.f55 at hc
    injection hc with hc
    subst hc
    refine Wp.regD ?_
    refine GL.move I0.mono (by conv => lhs; whnf) ?_
    refine GL.move I0.mono (by conv => lhs; whnf) ?_
    refine GL.move I0.mono (by conv => lhs; whnf) ?_
    refine GL.move I0.mono (by conv => lhs; whnf) ?_
    refine GL.lenF I0.mono rfl rfl (em_len _ _) ?_
    refine GL.move I0.mono (by conv => lhs; whnf) ?_
    refine GL.nilCheckR I0.mono rfl rfl rfl ?_
    refine GL.fieldAddr I0.mono (o := 0) rfl rfl rfl rfl (by conv => lhs; whnf) ?_
    refine GL.loadA I0.mono (n := 4) rfl rfl rfl rfl (by simp) rfl rfl (Nat.le_of_ble_eq_true rfl) (by (conv => lhs; simp only [List.take_succ_cons, List.take_zero, List.drop_succ_cons, List.drop_zero, List.nil_append, List.cons_append, List.drop_nil, List.append_nil, List.take_nil, List.set_cons_zero, List.set_cons_succ, Nat.zero_add, ni, nr, nc, ns, np, ic, nt, ei, cellsL, nh, nl, u32, tabL])) ?_
    refine GL.move I0.mono (by conv => lhs; whnf) ?_
    refine GL.nilCheckR I0.mono rfl rfl rfl ?_
    refine GL.fieldAddr I0.mono (o := 4) rfl rfl rfl rfl (by conv => lhs; whnf) ?_
    refine GL.load I0.mono rfl rfl rfl rfl (by simp) rfl rfl ?_
    refine GL.move I0.mono (by conv => lhs; whnf) ?_
    refine GL.call0 I0.mono rfl (Frz.aggc (by exact Frz.pures rfl) (Frz.aggc (by exact Frz.pure rfl) (Frz.aggc (by exact Frz.pure rfl) (Frz.aggn)))) (heads_ok I ht c _ (by unfold Short; omega)) rfl rfl (fun _ => rfl) ?_
    refine GL.move I0.mono (by conv => lhs; whnf) ?_
    refine GL.nilCheckR I0.mono rfl rfl rfl ?_
    refine GL.fieldAddr I0.mono (o := 0) rfl rfl rfl rfl (by conv => lhs; whnf) ?_
    refine GL.loadA I0.mono (n := 4) rfl rfl rfl rfl (by simp) rfl rfl (Nat.le_of_ble_eq_true rfl) (by (conv => lhs; simp only [List.take_succ_cons, List.take_zero, List.drop_succ_cons, List.drop_zero, List.nil_append, List.cons_append, List.drop_nil, List.append_nil, List.take_nil, List.set_cons_zero, List.set_cons_succ, Nat.zero_add, ni, nr, nc, ns, np, ic, nt, ei, cellsL, nh, nl, u32, tabL])) ?_
    refine GL.move I0.mono (by conv => lhs; whnf) ?_
    refine GL.nilCheckR I0.mono rfl rfl rfl ?_
    refine GL.fieldAddr I0.mono (o := 4) rfl rfl rfl rfl (by conv => lhs; whnf) ?_
    refine GL.load I0.mono rfl rfl rfl rfl (by simp) rfl rfl ?_
    refine GL.move I0.mono (by conv => lhs; whnf) ?_
    refine GL.call0 I0.mono rfl (Frz.aggc (by exact Frz.pures rfl) (Frz.aggc (by exact Frz.pure rfl) (Frz.aggc (by exact Frz.pure rfl) (Frz.aggn)))) (tails_ok I ht c _ (by unfold Short; omega)) rfl rfl (fun _ => rfl) ?_
    refine GL.nilCheckR I0.mono rfl rfl rfl ?_
    refine GL.fieldAddr I0.mono (o := 5) rfl rfl rfl rfl (by conv => lhs; whnf) ?_
    refine GL.store I0.mono (n := 1) rfl rfl rfl rfl rfl rfl rfl rfl rfl rfl (Nat.le_of_ble_eq_true rfl) (by (conv => lhs; simp only [List.take_succ_cons, List.take_zero, List.drop_succ_cons, List.drop_zero, List.nil_append, List.cons_append, List.drop_nil, List.append_nil, List.take_nil, List.set_cons_zero, List.set_cons_succ, Nat.zero_add, ni, nr, nc, ns, np, ic, nt, ei, cellsL, nh, nl, u32, tabL])) (by (conv => lhs; simp only [List.take_succ_cons, List.take_zero, List.drop_succ_cons, List.drop_zero, List.nil_append, List.cons_append, List.drop_nil, List.append_nil, List.take_nil, List.set_cons_zero, List.set_cons_succ, Nat.zero_add, ni, nr, nc, ns, np, ic, nt, ei, cellsL, nh, nl, u32, tabL])) ?_
    refine GL.nilCheckR I0.mono rfl rfl rfl ?_
    refine GL.fieldAddr I0.mono (o := 6) rfl rfl rfl rfl (by conv => lhs; whnf) ?_
    refine GL.store I0.mono (n := 1) rfl rfl rfl rfl rfl rfl rfl rfl rfl rfl (Nat.le_of_ble_eq_true rfl) (by (conv => lhs; simp only [List.take_succ_cons, List.take_zero, List.drop_succ_cons, List.drop_zero, List.nil_append, List.cons_append, List.drop_nil, List.append_nil, List.take_nil, List.set_cons_zero, List.set_cons_succ, Nat.zero_add, ni, nr, nc, ns, np, ic, nt, ei, cellsL, nh, nl, u32, tabL])) (by (conv => lhs; simp only [List.take_succ_cons, List.take_zero, List.drop_succ_cons, List.drop_zero, List.nil_append, List.cons_append, List.drop_nil, List.append_nil, List.take_nil, List.set_cons_zero, List.set_cons_succ, Nat.zero_add, ni, nr, nc, ns, np, ic, nt, ei, cellsL, nh, nl, u32, tabL])) ?_
    refine GL.nilCheckR I0.mono rfl rfl rfl ?_
    refine GL.fieldAddr I0.mono (o := 7) rfl rfl rfl rfl (by conv => lhs; whnf) ?_
    refine GL.store I0.mono (n := 1) rfl rfl rfl rfl rfl rfl rfl rfl rfl rfl (Nat.le_of_ble_eq_true rfl) (by (conv => lhs; simp only [List.take_succ_cons, List.take_zero, List.drop_succ_cons, List.drop_zero, List.nil_append, List.cons_append, List.drop_nil, List.append_nil, List.take_nil, List.set_cons_zero, List.set_cons_succ, Nat.zero_add, ni, nr, nc, ns, np, ic, nt, ei, cellsL, nh, nl, u32, tabL])) (by (conv => lhs; simp only [List.take_succ_cons, List.take_zero, List.drop_succ_cons, List.drop_zero, List.nil_append, List.cons_append, List.drop_nil, List.append_nil, List.take_nil, List.set_cons_zero, List.set_cons_succ, Nat.zero_add, ni, nr, nc, ns, np, ic, nt, ei, cellsL, nh, nl, u32, tabL])) ?_
    refine GL.doneT (by kernel_rfl) ?_
    refine RetM.normal_ ?_
    refine ⟨_, .nil, ?_⟩
    refine GL.doneF ?_
    refine blockX.normal ?_
    refine goOn ?_
    refine Wp.regI I1.mono ?_
    refine GL.move I1.mono (by conv => lhs; whnf) ?_
    refine GL.addR I1.mono rfl rfl (by omega) ?_
    refine GL.assign I1.mono (by conv => lhs; whnf) ?_
    refine GL.doneF ?_
    refine ⟨⟨j + 1, p, _, _⟩, (by dsimp only; omega), _, (LessS.weak (LessS.upd (LessS.upd (LessS.upd (LessS.upd (LessS.upd (LessS.upd (LessS.upd (LessS.upd (LessS.upd (LessS.nil _) rfl) rfl) rfl) rfl) rfl) rfl) rfl) rfl) rfl) _), (by omega), _, (congrArg (St.mk _) (effM_eq (Has.cons rfl (Has.cons rfl (Has.cons rfl Has.nil)))).symm)⟩
  ·replace h54 := of_decide_eq_false h54
   refine Wp.exitI ?_
   refine thenX.exit ?_
   refine thenX.exit ?_
   refine blockX.out ?_
   refine goOn ?_
   refine Wp.seqI ?_
   refine Wp.regI I1.mono ?_
   refine GL.call0 I1.mono rfl (Frz.aggn) (wakes6_ok) rfl rfl (fun _ => rfl) ?_
   refine GL.assign I1.mono (by conv => lhs; whnf) ?_
   refine GL.doneF ?_
   refine goOn ?_
   refine Wp.retI ?_
   refine RetX.ret ?_
   refine ⟨_, _, _, _, .cons (.tmp rfl) .nil, .frz (.pure rfl), List.nodup_nil, by simp, ?_⟩
   rfl


theorem law_FitsTells (z0 : List Int) (h0 : Ints z0) (z1 : List Int) (h1 : Ints z1) (z2 : List Int) (h2 : Ints z2) (z3 : List Int) (h3 : Ints z3) (n stop : Int) : CallsV Try.prog 19 [.sl (em ni z0), .sl (em ni z1), .sl (em ni z2), .sl (em ni z3), .int .i64 n, .int .i64 stop] (.bool true) := by
  have hb := inst_sb z0
  have hci := within_in (a := n) (n := (instOf z0).cars.length) (by have := hb.sq.cars0; omega)
  have hst := hb.sq.stops
  have hN := hb.sq.high
  exact ft_walk z0 z1 z2 z3 n stop (instOf z0) (nStops z0) hb (inst_sp z0) (inst_sd z0) (tb_inst hb (inst_sd z0)) (by omega) hb.sq.cars1 (inst_ok z0 h0) _ _ _ (row_ok _ hb.sq.short z1 h1) (row_ok _ hb.sq.short z2 h2) (row_ok _ hb.sq.short z3 h3) (row_short _ _) (row_short _ _) (row_short _ _) _ rfl hci.1 hci.2

end Go.Proofs.Ytpepcfombibpeaa
