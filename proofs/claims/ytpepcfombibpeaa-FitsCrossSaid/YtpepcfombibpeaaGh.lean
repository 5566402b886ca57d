/- The law of what crosses, walked. -/
import Derived.Test.YtpepcfombibpeaaFg
import Derived.Test.YtpepcfombibpeaaFk
import Derived.Test.YtpepcfombibpeaaGf
import Derived.KernelRfl
set_option linter.unusedVariables false
set_option linter.unusedSimpArgs false
namespace Go.Proofs.Ytpepcfombibpeaa
open Go.Proofs Mv

set_option maxRecDepth 100000 in
set_option maxHeartbeats 4000000 in
theorem fc_walk (z0 z1 z2 : List Int) (n kk mm : Int) (I : Inst) (hs : I.Short) (hcn : I.cars.length ≤ 3) (hI : CallsV Try.prog 29 [.sl (em ni z0)] (ei I)) (r s : List Int) (hr : CallsV Try.prog 30 [ei I, .sl (em ni z1)] (.sl (em ni r))) (hs2 : CallsV Try.prog 30 [ei I, .sl (em ni z2)] (.sl (em ni s))) (hrl : r.length ≤ 14) (hsl : s.length ≤ 14) (c : Int) (hc : within n I.cars.length = c) (HR HS : List Head) (TR TS : List Tail) (hNr : CallsV Try.prog 48 [ei I, .int .i64 c, .sl (em ni r)] (.ptro (tabL I c r.length HR TR))) (hNs : CallsV Try.prog 48 [ei I, .int .i64 c, .sl (em ni s)] (.ptro (tabL I c s.length HS TS))) (x y : Int) (hx : within kk ((r.length : Int) + 1) = x) (hy : within mm ((s.length : Int) + 1) = y) (hx0 : 0 ≤ x) (hx1 : x ≤ r.length) (hy0 : 0 ≤ y) (hy1 : y ≤ s.length) (c1 c2 : Int) (b1 b2 : Bool) (T1 T2 : Trip) (hc1 : CallsV Try.prog 49 [tabP I c r.length HR TR, .int .i64 x, tabP I c s.length HS TS, .int .i64 y] (.tup [.int .i64 c1, .bool b1])) (he1 : ∀ l, l = r.take x.toNat ++ s.drop y.toNat → CallsV Try.prog 32 [ei I, .int .i64 c, .sl (em ni l)] (.tup [.agg (nt T1), .bool b1])) (q1 : b1 = true → c1 = T1.t2) (q2 : b1 = false → c1 = 0) (hd1 : CallsV Try.prog 49 [tabP I c s.length HS TS, .int .i64 y, tabP I c r.length HR TR, .int .i64 x] (.tup [.int .i64 c2, .bool b2])) (he2 : ∀ l, l = s.take y.toNat ++ r.drop x.toNat → CallsV Try.prog 32 [ei I, .int .i64 c, .sl (em ni l)] (.tup [.agg (nt T2), .bool b2])) (q3 : b2 = true → c2 = T2.t2) (q4 : b2 = false → c2 = 0) (w1 w2 : Int) (v1 v2 : Bool) (hself : CallsV Try.prog 49 [tabP I c r.length HR TR, .int .i64 x, tabP I c r.length HR TR, .int .i64 x] (.tup [.int .i64 w1, .bool v1])) (hw1 : CallsV Try.prog 51 [tabP I c r.length HR TR] (.tup [.int .i64 w1, .bool v1])) (h00 : CallsV Try.prog 49 [tabP I c r.length HR TR, .int .i64 0, tabP I c s.length HS TS, .int .i64 0] (.tup [.int .i64 w2, .bool v2])) (hw2 : CallsV Try.prog 51 [tabP I c s.length HS TS] (.tup [.int .i64 w2, .bool v2])) : CallsV Try.prog 15 [.sl (em ni z0), .sl (em ni z1), .sl (em ni z2), .int .i64 n, .int .i64 kk, .int .i64 mm] (.bool true) := by
  refine CallsR.intro (I0.sound _) mix Try.func15 rfl rfl (by simp [Try.f15]) (by kernel_rfl) (nb := 0) ?_
  unfold Try.f15
  refine Wp.seqI ?_
  refine Wp.regI I0.mono ?_
  refine GL.assign I0.mono (by conv => lhs; whnf) ?_
  refine GL.doneF ?_
  refine goOn ?_
  refine Wp.seqI ?_
  refine Wp.regI I0.mono ?_
  refine GL.move I0.mono (by conv => lhs; whnf) ?_
  refine GL.call0 I0.mono rfl (Frz.aggc (by exact Frz.pure rfl) (Frz.aggn)) (hI) rfl rfl (fun _ => rfl) ?_
  refine GL.alloc I0.mono (cs := [LV.nils, LV.nils, LV.nils, LV.nils]) rfl rfl ?_
  intro g13
  refine GL.storeW I0.mono (n := 4) rfl rfl rfl rfl rfl rfl rfl (by conv => lhs; whnf) rfl rfl rfl ?_
  refine GL.doneF ?_
  refine goOn ?_
  refine Wp.seqI ?_
  refine Wp.regI I0.mono ?_
  refine GL.move I0.mono (by conv => lhs; whnf) ?_
  refine GL.fieldAddr I0.mono (o := 0) rfl rfl rfl rfl (by conv => lhs; whnf) ?_
  refine GL.load I0.mono rfl rfl rfl rfl (by simp) rfl rfl ?_
  refine GL.lenF I0.mono rfl rfl (em_len _ _) ?_
  refine GL.call0 I0.mono rfl (Frz.aggc (by exact Frz.pure rfl) (Frz.aggc (by exact Frz.pure rfl) (Frz.aggn))) ((hc ▸ within_ok _ _ (by omega))) rfl rfl (fun _ => rfl) ?_
  refine GL.assign I0.mono (by conv => lhs; whnf) ?_
  refine GL.doneF ?_
  refine goOn ?_
  refine Wp.seqI ?_
  refine Wp.regD ?_
  refine GL.loadW I0.mono (n := 4) rfl rfl rfl rfl (by simp) rfl rfl rfl ?_
  refine GL.move I0.mono (by conv => lhs; whnf) ?_
  refine GL.call0 I0.mono rfl (Frz.aggc (by exact Frz.pures rfl) (Frz.aggc (by exact Frz.pure rfl) (Frz.aggn))) (hr) rfl rfl (fun _ => rfl) ?_
  refine GL.loadW I0.mono (n := 4) rfl rfl rfl rfl (by simp) rfl rfl rfl ?_
  refine GL.move I0.mono (by conv => lhs; whnf) ?_
  refine GL.call0 I0.mono rfl (Frz.aggc (by exact Frz.pures rfl) (Frz.aggc (by exact Frz.pure rfl) (Frz.aggn))) (hs2) rfl rfl (fun _ => rfl) ?_
  refine GL.assign I0.mono (by conv => lhs; whnf) ?_
  refine GL.assign I0.mono (by conv => lhs; whnf) ?_
  refine GL.doneT (by kernel_rfl) ?_
  refine goOn ?_
  refine Wp.seqI ?_
  refine Wp.regD ?_
  refine GL.loadW I0.mono (n := 4) rfl rfl rfl rfl (by simp) rfl rfl rfl ?_
  refine GL.move I0.mono (by conv => lhs; whnf) ?_
  refine GL.move I0.mono (by conv => lhs; whnf) ?_
  refine GL.callN I0.mono rfl (Frz.aggc (Frz.aggc (by exact Frz.pure rfl) (Frz.aggc (by exact Frz.pure rfl) (Frz.aggc (by exact Frz.pure rfl) (Frz.aggc (by exact Frz.pure rfl) Frz.aggn)))) (Frz.aggc (Frz.pure rfl) (Frz.aggc (Frz.pure rfl) Frz.aggn))) (hNr) rfl rfl (imp_tab _ _ _ _ _ _ _) ?_
  refine GL.loadW I0.mono (n := 4) rfl rfl rfl rfl (by simp) rfl rfl rfl ?_
  refine GL.move I0.mono (by conv => lhs; whnf) ?_
  refine GL.move I0.mono (by conv => lhs; whnf) ?_
  refine GL.callN I0.mono rfl (Frz.aggc (Frz.aggc (by exact Frz.pure rfl) (Frz.aggc (by exact Frz.pure rfl) (Frz.aggc (by exact Frz.pure rfl) (Frz.aggc (by exact Frz.pure rfl) Frz.aggn)))) (Frz.aggc (Frz.pure rfl) (Frz.aggc (Frz.pure rfl) Frz.aggn))) (hNs) rfl rfl (imp_tab _ _ _ _ _ _ _) ?_
  refine GL.assign I0.mono (by conv => lhs; whnf) ?_
  refine GL.assign I0.mono (by conv => lhs; whnf) ?_
  refine GL.doneT (by kernel_rfl) ?_
  refine goOn ?_
  refine Wp.seqI ?_
  refine Wp.seqI ?_
  refine Wp.regI I0.mono ?_
  refine GL.move I0.mono (by conv => lhs; whnf) ?_
  refine GL.nilEq I0.mono rfl rfl rfl rfl rfl ?_
  refine GL.move I0.mono (by conv => lhs; whnf) ?_
  refine GL.guardT rfl ?_
  refine GL.move I0.mono (by conv => lhs; whnf) ?_
  refine GL.guardT rfl ?_
  refine GL.nilEq I0.mono rfl rfl rfl rfl rfl ?_
  refine GL.pick I0.mono rfl (by conv => lhs; whnf) ?_
  refine GL.doneF ?_
  refine goOn ?_
  refine Wp.condF rfl ?_
  refine Wp.skipI ?_
  refine goOn ?_
  refine Wp.seqI ?_
  refine Wp.regI I0.mono ?_
  refine GL.move I0.mono (by conv => lhs; whnf) ?_
  refine GL.move I0.mono (by conv => lhs; whnf) ?_
  refine GL.lenF I0.mono rfl rfl (em_len _ _) ?_
  refine GL.addR I0.mono rfl rfl (by omega) ?_
  refine GL.call0 I0.mono rfl (Frz.aggc (by exact Frz.pure rfl) (Frz.aggc (by exact Frz.pure rfl) (Frz.aggn))) ((hx ▸ within_ok _ _ (by omega))) rfl rfl (fun _ => rfl) ?_
  refine GL.move I0.mono (by conv => lhs; whnf) ?_
  refine GL.move I0.mono (by conv => lhs; whnf) ?_
  refine GL.lenF I0.mono rfl rfl (em_len _ _) ?_
  refine GL.addR I0.mono rfl rfl (by omega) ?_
  refine GL.call0 I0.mono rfl (Frz.aggc (by exact Frz.pure rfl) (Frz.aggc (by exact Frz.pure rfl) (Frz.aggn))) ((hy ▸ within_ok _ _ (by omega))) rfl rfl (fun _ => rfl) ?_
  refine GL.assign I0.mono (by conv => lhs; whnf) ?_
  refine GL.assign I0.mono (by conv => lhs; whnf) ?_
  refine GL.doneF ?_
  refine goOn ?_
  refine Wp.seqI ?_
  refine Wp.regI I0.mono ?_
  refine GL.move I0.mono (by conv => lhs; whnf) ?_
  refine GL.move I0.mono (by conv => lhs; whnf) ?_
  refine GL.move I0.mono (by conv => lhs; whnf) ?_
  refine GL.move I0.mono (by conv => lhs; whnf) ?_
  refine GL.callFl I0.mono rfl (Frz.aggc (Frz.ref rfl rfl rfl rfl (Frz.pures rfl)) (Frz.aggc (Frz.pure rfl) (Frz.aggc (Frz.ref rfl rfl rfl rfl (Frz.pures rfl)) (Frz.aggc (Frz.pure rfl) Frz.aggn)))) (hc1) (flat_ib _ _) rfl rfl ?_
  refine GL.move I0.mono (by conv => lhs; whnf) ?_
  refine GL.extract I0.mono rfl rfl ?_
  refine GL.extract I0.mono rfl rfl ?_
  refine GL.assign I0.mono (by conv => lhs; whnf) ?_
  refine GL.assign I0.mono (by conv => lhs; whnf) ?_
  refine GL.doneF ?_
  refine goOn ?_
  refine Wp.seqI ?_
  refine Wp.regI I0.mono ?_
  refine GL.move I0.mono (by conv => lhs; whnf) ?_
  refine GL.move I0.mono (by conv => lhs; whnf) ?_
  refine GL.move I0.mono (by conv => lhs; whnf) ?_
  refine GL.move I0.mono (by conv => lhs; whnf) ?_
  refine GL.callFl I0.mono rfl (Frz.aggc (Frz.ref rfl rfl rfl rfl (Frz.pures rfl)) (Frz.aggc (Frz.pure rfl) (Frz.aggc (Frz.ref rfl rfl rfl rfl (Frz.pures rfl)) (Frz.aggc (Frz.pure rfl) Frz.aggn)))) (hd1) (flat_ib _ _) rfl rfl ?_
  refine GL.move I0.mono (by conv => lhs; whnf) ?_
  refine GL.extract I0.mono rfl rfl ?_
  refine GL.extract I0.mono rfl rfl ?_
  refine GL.assign I0.mono (by conv => lhs; whnf) ?_
  refine GL.assign I0.mono (by conv => lhs; whnf) ?_
  refine GL.doneF ?_
  refine goOn ?_
  refine Wp.seqI ?_
  refine Wp.merge I0.mono (fun st => ∃ gt gu, (True) ∧ ∃ m0, st = ⟨(updS (updS (updS (updS (fun _ => LV.undef) 4 (.int .i64 x)) 16 (.ref 2944 gt 0 0)) 17 (.ref 3200 gu 0 0)) 112 (.bool false)), effM m0 [(2944, ⟨gt, false, .var, 8, [tabL I c r.length HR TR]⟩), (3200, ⟨gu, false, .var, 8, [tabL I c s.length HS TS]⟩)]⟩) ?_ ?_
  ·skip
   rcases (show r.take x.toNat = [] ∨ 0 < (r.take x.toNat).length by cases r.take x.toNat with | nil => exact .inl rfl | cons a r => exact .inr (by simp)) with k1 | k1
   ·skip
    rcases (show s.drop y.toNat = [] ∨ 0 < (s.drop y.toNat).length by cases s.drop y.toNat with | nil => exact .inl rfl | cons a r => exact .inr (by simp)) with k2 | k2
    ·skip
     rcases (show s.take y.toNat = [] ∨ 0 < (s.take y.toNat).length by cases s.take y.toNat with | nil => exact .inl rfl | cons a r => exact .inr (by simp)) with k3 | k3
     ·skip
      rcases (show r.drop x.toNat = [] ∨ 0 < (r.drop x.toNat).length by cases r.drop x.toNat with | nil => exact .inl rfl | cons a r => exact .inr (by simp)) with k4 | k4
      ·skip
       refine Wp.regD ?_
       refine GL.loadW I0.mono (n := 4) rfl rfl rfl rfl (by simp) rfl rfl rfl ?_
       refine GL.move I0.mono (by conv => lhs; whnf) ?_
       refine GL.move I0.mono (by conv => lhs; whnf) ?_
       refine GL.move I0.mono (by conv => lhs; whnf) ?_
       refine GL.sliceTo I0.mono (sz := 1) rfl rfl rfl rfl (by intro e he; obtain ⟨a, -, rfl⟩ := List.mem_map.1 he; rfl) (by omega) (by omega) (by rfl) ?_
       refine GL.appendNil I0.mono rfl rfl rfl rfl (show LV.sl (em ni (r.take x.toNat)) = .sl [] by rw [k1]; rfl) ?_
       refine GL.move I0.mono (by conv => lhs; whnf) ?_
       refine GL.move I0.mono (by conv => lhs; whnf) ?_
       refine GL.sliceFrom I0.mono (sz := 1) rfl rfl rfl rfl (by intro e he; obtain ⟨a, -, rfl⟩ := List.mem_map.1 he; rfl) (by omega) (by omega) (by rfl) ?_
       refine GL.appendNil I0.mono rfl rfl rfl rfl (show LV.sl (em ni (s.drop y.toNat)) = .sl [] by rw [k2]; rfl) ?_
       refine GL.move I0.mono (by conv => lhs; whnf) ?_
       refine GL.move I0.mono (by conv => lhs; whnf) ?_
       refine GL.callFlT rfl (Frz.aggc (Frz.aggc (by exact Frz.pure rfl) (Frz.aggc (by exact Frz.pure rfl) (Frz.aggc (by exact Frz.pure rfl) (Frz.aggc (by exact Frz.pure rfl) Frz.aggn)))) (Frz.aggc (Frz.pure rfl) (Frz.aggc Frz.nils (Frz.aggc (Frz.pure rfl) (Frz.aggc (Frz.pure rfl) Frz.aggn))))) (right_ok (he1 [] (by rw [k1, k2]; rfl)) q1 q2) (FlatI.sca rfl) rfl rfl ?_
       refine GL.un I0.mono rfl ?_
       refine GL.move I0.mono (by conv => lhs; whnf) ?_
       refine GL.guardT rfl ?_
       refine GL.loadW I0.mono (n := 4) rfl rfl rfl rfl (by simp) rfl rfl rfl ?_
       refine GL.guardT rfl ?_
       refine GL.move I0.mono (by conv => lhs; whnf) ?_
       refine GL.guardT rfl ?_
       refine GL.move I0.mono (by conv => lhs; whnf) ?_
       refine GL.guardT rfl ?_
       refine GL.move I0.mono (by conv => lhs; whnf) ?_
       refine GL.guardT rfl ?_
       refine GL.sliceTo I0.mono (sz := 1) rfl rfl rfl rfl (by intro e he; obtain ⟨a, -, rfl⟩ := List.mem_map.1 he; rfl) (by omega) (by omega) (by rfl) ?_
       refine GL.guardT rfl ?_
       refine GL.appendNil I0.mono rfl rfl rfl rfl (show LV.sl (em ni (s.take y.toNat)) = .sl [] by rw [k3]; rfl) ?_
       refine GL.guardT rfl ?_
       refine GL.move I0.mono (by conv => lhs; whnf) ?_
       refine GL.guardT rfl ?_
       refine GL.move I0.mono (by conv => lhs; whnf) ?_
       refine GL.guardT rfl ?_
       refine GL.sliceFrom I0.mono (sz := 1) rfl rfl rfl rfl (by intro e he; obtain ⟨a, -, rfl⟩ := List.mem_map.1 he; rfl) (by omega) (by omega) (by rfl) ?_
       refine GL.guardT rfl ?_
       refine GL.appendNil I0.mono rfl rfl rfl rfl (show LV.sl (em ni (r.drop x.toNat)) = .sl [] by rw [k4]; rfl) ?_
       refine GL.guardT rfl ?_
       refine GL.move I0.mono (by conv => lhs; whnf) ?_
       refine GL.guardT rfl ?_
       refine GL.move I0.mono (by conv => lhs; whnf) ?_
       refine GL.guardT rfl ?_
       refine GL.callFlT rfl (Frz.aggc (Frz.aggc (by exact Frz.pure rfl) (Frz.aggc (by exact Frz.pure rfl) (Frz.aggc (by exact Frz.pure rfl) (Frz.aggc (by exact Frz.pure rfl) Frz.aggn)))) (Frz.aggc (Frz.pure rfl) (Frz.aggc Frz.nils (Frz.aggc (Frz.pure rfl) (Frz.aggc (Frz.pure rfl) Frz.aggn))))) (right_ok (he2 [] (by rw [k3, k4]; rfl)) q3 q4) (FlatI.sca rfl) rfl rfl ?_
       refine GL.guardT rfl ?_
       refine GL.un I0.mono rfl ?_
       refine GL.pick I0.mono rfl (by conv => lhs; whnf) ?_
       refine GL.doneT (by kernel_rfl) ?_
       refine ⟨_, (LessS.weak (LessS.upd (LessS.upd (LessS.upd (LessS.upd (LessS.nil _) rfl) rfl) rfl) rfl) _), _, _, trivial, _, (congrArg (St.mk _) (effM_eq (Has.cons rfl (Has.cons rfl Has.nil))).symm)⟩
      ·skip
       refine Wp.regD ?_
       refine GL.loadW I0.mono (n := 4) rfl rfl rfl rfl (by simp) rfl rfl rfl ?_
       refine GL.move I0.mono (by conv => lhs; whnf) ?_
       refine GL.move I0.mono (by conv => lhs; whnf) ?_
       refine GL.move I0.mono (by conv => lhs; whnf) ?_
       refine GL.sliceTo I0.mono (sz := 1) rfl rfl rfl rfl (by intro e he; obtain ⟨a, -, rfl⟩ := List.mem_map.1 he; rfl) (by omega) (by omega) (by rfl) ?_
       refine GL.appendNil I0.mono rfl rfl rfl rfl (show LV.sl (em ni (r.take x.toNat)) = .sl [] by rw [k1]; rfl) ?_
       refine GL.move I0.mono (by conv => lhs; whnf) ?_
       refine GL.move I0.mono (by conv => lhs; whnf) ?_
       refine GL.sliceFrom I0.mono (sz := 1) rfl rfl rfl rfl (by intro e he; obtain ⟨a, -, rfl⟩ := List.mem_map.1 he; rfl) (by omega) (by omega) (by rfl) ?_
       refine GL.appendNil I0.mono rfl rfl rfl rfl (show LV.sl (em ni (s.drop y.toNat)) = .sl [] by rw [k2]; rfl) ?_
       refine GL.move I0.mono (by conv => lhs; whnf) ?_
       refine GL.move I0.mono (by conv => lhs; whnf) ?_
       refine GL.callFlT rfl (Frz.aggc (Frz.aggc (by exact Frz.pure rfl) (Frz.aggc (by exact Frz.pure rfl) (Frz.aggc (by exact Frz.pure rfl) (Frz.aggc (by exact Frz.pure rfl) Frz.aggn)))) (Frz.aggc (Frz.pure rfl) (Frz.aggc Frz.nils (Frz.aggc (Frz.pure rfl) (Frz.aggc (Frz.pure rfl) Frz.aggn))))) (right_ok (he1 [] (by rw [k1, k2]; rfl)) q1 q2) (FlatI.sca rfl) rfl rfl ?_
       refine GL.un I0.mono rfl ?_
       refine GL.move I0.mono (by conv => lhs; whnf) ?_
       refine GL.guardT rfl ?_
       refine GL.loadW I0.mono (n := 4) rfl rfl rfl rfl (by simp) rfl rfl rfl ?_
       refine GL.guardT rfl ?_
       refine GL.move I0.mono (by conv => lhs; whnf) ?_
       refine GL.guardT rfl ?_
       refine GL.move I0.mono (by conv => lhs; whnf) ?_
       refine GL.guardT rfl ?_
       refine GL.move I0.mono (by conv => lhs; whnf) ?_
       refine GL.guardT rfl ?_
       refine GL.sliceTo I0.mono (sz := 1) rfl rfl rfl rfl (by intro e he; obtain ⟨a, -, rfl⟩ := List.mem_map.1 he; rfl) (by omega) (by omega) (by rfl) ?_
       refine GL.guardT rfl ?_
       refine GL.appendNil I0.mono rfl rfl rfl rfl (show LV.sl (em ni (s.take y.toNat)) = .sl [] by rw [k3]; rfl) ?_
       refine GL.guardT rfl ?_
       refine GL.move I0.mono (by conv => lhs; whnf) ?_
       refine GL.guardT rfl ?_
       refine GL.move I0.mono (by conv => lhs; whnf) ?_
       refine GL.guardT rfl ?_
       refine GL.sliceFrom I0.mono (sz := 1) rfl rfl rfl rfl (by intro e he; obtain ⟨a, -, rfl⟩ := List.mem_map.1 he; rfl) (by omega) (by omega) (by rfl) ?_
       refine GL.guardT rfl ?_
       refine GL.appendSl I0.mono (f := ni) (l := r.drop x.toNat) (sz := 1) (z := [.int .i64 0]) rfl rfl rfl rfl rfl (by decide) (Nat.le_of_ble_eq_true rfl) rfl rfl (fun _ => rfl) (fun _ => rfl) (k4) (by (rw [List.length_drop]; omega)) ?_
       intro g107
       refine GL.guardT rfl ?_
       refine GL.move I0.mono (by conv => lhs; whnf) ?_
       refine GL.guardT rfl ?_
       refine GL.move I0.mono (by conv => lhs; whnf) ?_
       refine GL.guardT rfl ?_
       refine GL.callFlT rfl (Frz.aggc (Frz.aggc (by exact Frz.pure rfl) (Frz.aggc (by exact Frz.pure rfl) (Frz.aggc (by exact Frz.pure rfl) (Frz.aggc (by exact Frz.pure rfl) Frz.aggn)))) (Frz.aggc (Frz.pure rfl) (Frz.aggc (Frz.whole rfl rfl rfl rfl (by rw [em_len])) (Frz.aggc (Frz.pure rfl) (Frz.aggc (Frz.pure rfl) Frz.aggn))))) (right_ok (he2 (r.drop x.toNat) (by rw [k3]; rfl)) q3 q4) (FlatI.sca rfl) rfl rfl ?_
       refine GL.guardT rfl ?_
       refine GL.un I0.mono rfl ?_
       refine GL.pick I0.mono rfl (by conv => lhs; whnf) ?_
       refine GL.doneT (by kernel_rfl) ?_
       refine ⟨_, (LessS.weak (LessS.upd (LessS.upd (LessS.upd (LessS.upd (LessS.nil _) rfl) rfl) rfl) rfl) _), _, _, trivial, _, (congrArg (St.mk _) (effM_eq (Has.cons rfl (Has.cons rfl Has.nil))).symm)⟩
     ·skip
      rcases (show r.drop x.toNat = [] ∨ 0 < (r.drop x.toNat).length by cases r.drop x.toNat with | nil => exact .inl rfl | cons a r => exact .inr (by simp)) with k4 | k4
      ·skip
       refine Wp.regD ?_
       refine GL.loadW I0.mono (n := 4) rfl rfl rfl rfl (by simp) rfl rfl rfl ?_
       refine GL.move I0.mono (by conv => lhs; whnf) ?_
       refine GL.move I0.mono (by conv => lhs; whnf) ?_
       refine GL.move I0.mono (by conv => lhs; whnf) ?_
       refine GL.sliceTo I0.mono (sz := 1) rfl rfl rfl rfl (by intro e he; obtain ⟨a, -, rfl⟩ := List.mem_map.1 he; rfl) (by omega) (by omega) (by rfl) ?_
       refine GL.appendNil I0.mono rfl rfl rfl rfl (show LV.sl (em ni (r.take x.toNat)) = .sl [] by rw [k1]; rfl) ?_
       refine GL.move I0.mono (by conv => lhs; whnf) ?_
       refine GL.move I0.mono (by conv => lhs; whnf) ?_
       refine GL.sliceFrom I0.mono (sz := 1) rfl rfl rfl rfl (by intro e he; obtain ⟨a, -, rfl⟩ := List.mem_map.1 he; rfl) (by omega) (by omega) (by rfl) ?_
       refine GL.appendNil I0.mono rfl rfl rfl rfl (show LV.sl (em ni (s.drop y.toNat)) = .sl [] by rw [k2]; rfl) ?_
       refine GL.move I0.mono (by conv => lhs; whnf) ?_
       refine GL.move I0.mono (by conv => lhs; whnf) ?_
       refine GL.callFlT rfl (Frz.aggc (Frz.aggc (by exact Frz.pure rfl) (Frz.aggc (by exact Frz.pure rfl) (Frz.aggc (by exact Frz.pure rfl) (Frz.aggc (by exact Frz.pure rfl) Frz.aggn)))) (Frz.aggc (Frz.pure rfl) (Frz.aggc Frz.nils (Frz.aggc (Frz.pure rfl) (Frz.aggc (Frz.pure rfl) Frz.aggn))))) (right_ok (he1 [] (by rw [k1, k2]; rfl)) q1 q2) (FlatI.sca rfl) rfl rfl ?_
       refine GL.un I0.mono rfl ?_
       refine GL.move I0.mono (by conv => lhs; whnf) ?_
       refine GL.guardT rfl ?_
       refine GL.loadW I0.mono (n := 4) rfl rfl rfl rfl (by simp) rfl rfl rfl ?_
       refine GL.guardT rfl ?_
       refine GL.move I0.mono (by conv => lhs; whnf) ?_
       refine GL.guardT rfl ?_
       refine GL.move I0.mono (by conv => lhs; whnf) ?_
       refine GL.guardT rfl ?_
       refine GL.move I0.mono (by conv => lhs; whnf) ?_
       refine GL.guardT rfl ?_
       refine GL.sliceTo I0.mono (sz := 1) rfl rfl rfl rfl (by intro e he; obtain ⟨a, -, rfl⟩ := List.mem_map.1 he; rfl) (by omega) (by omega) (by rfl) ?_
       refine GL.guardT rfl ?_
       refine GL.appendSl I0.mono (f := ni) (l := s.take y.toNat) (sz := 1) (z := [.int .i64 0]) rfl rfl rfl rfl rfl (by decide) (Nat.le_of_ble_eq_true rfl) rfl rfl (fun _ => rfl) (fun _ => rfl) (k3) (by (rw [List.length_take]; omega)) ?_
       intro g103
       refine GL.guardT rfl ?_
       refine GL.move I0.mono (by conv => lhs; whnf) ?_
       refine GL.guardT rfl ?_
       refine GL.move I0.mono (by conv => lhs; whnf) ?_
       refine GL.guardT rfl ?_
       refine GL.sliceFrom I0.mono (sz := 1) rfl rfl rfl rfl (by intro e he; obtain ⟨a, -, rfl⟩ := List.mem_map.1 he; rfl) (by omega) (by omega) (by rfl) ?_
       refine GL.guardT rfl ?_
       refine GL.appendE I0.mono rfl rfl rfl rfl rfl rfl (show LV.sl (em ni (r.drop x.toNat)) = .sl [] by rw [k4]; rfl) ?_
       refine GL.guardT rfl ?_
       refine GL.move I0.mono (by conv => lhs; whnf) ?_
       refine GL.guardT rfl ?_
       refine GL.move I0.mono (by conv => lhs; whnf) ?_
       refine GL.guardT rfl ?_
       refine GL.callFlT rfl (Frz.aggc (Frz.aggc (by exact Frz.pure rfl) (Frz.aggc (by exact Frz.pure rfl) (Frz.aggc (by exact Frz.pure rfl) (Frz.aggc (by exact Frz.pure rfl) Frz.aggn)))) (Frz.aggc (Frz.pure rfl) (Frz.aggc (Frz.whole rfl rfl rfl rfl (by rw [em_len])) (Frz.aggc (Frz.pure rfl) (Frz.aggc (Frz.pure rfl) Frz.aggn))))) (right_ok (he2 (s.take y.toNat) (by rw [k4, List.append_nil])) q3 q4) (FlatI.sca rfl) rfl rfl ?_
       refine GL.guardT rfl ?_
       refine GL.un I0.mono rfl ?_
       refine GL.pick I0.mono rfl (by conv => lhs; whnf) ?_
       refine GL.doneT (by kernel_rfl) ?_
       refine ⟨_, (LessS.weak (LessS.upd (LessS.upd (LessS.upd (LessS.upd (LessS.nil _) rfl) rfl) rfl) rfl) _), _, _, trivial, _, (congrArg (St.mk _) (effM_eq (Has.cons rfl (Has.cons rfl Has.nil))).symm)⟩
      ·skip
       refine Wp.regD ?_
       refine GL.loadW I0.mono (n := 4) rfl rfl rfl rfl (by simp) rfl rfl rfl ?_
       refine GL.move I0.mono (by conv => lhs; whnf) ?_
       refine GL.move I0.mono (by conv => lhs; whnf) ?_
       refine GL.move I0.mono (by conv => lhs; whnf) ?_
       refine GL.sliceTo I0.mono (sz := 1) rfl rfl rfl rfl (by intro e he; obtain ⟨a, -, rfl⟩ := List.mem_map.1 he; rfl) (by omega) (by omega) (by rfl) ?_
       refine GL.appendNil I0.mono rfl rfl rfl rfl (show LV.sl (em ni (r.take x.toNat)) = .sl [] by rw [k1]; rfl) ?_
       refine GL.move I0.mono (by conv => lhs; whnf) ?_
       refine GL.move I0.mono (by conv => lhs; whnf) ?_
       refine GL.sliceFrom I0.mono (sz := 1) rfl rfl rfl rfl (by intro e he; obtain ⟨a, -, rfl⟩ := List.mem_map.1 he; rfl) (by omega) (by omega) (by rfl) ?_
       refine GL.appendNil I0.mono rfl rfl rfl rfl (show LV.sl (em ni (s.drop y.toNat)) = .sl [] by rw [k2]; rfl) ?_
       refine GL.move I0.mono (by conv => lhs; whnf) ?_
       refine GL.move I0.mono (by conv => lhs; whnf) ?_
       refine GL.callFlT rfl (Frz.aggc (Frz.aggc (by exact Frz.pure rfl) (Frz.aggc (by exact Frz.pure rfl) (Frz.aggc (by exact Frz.pure rfl) (Frz.aggc (by exact Frz.pure rfl) Frz.aggn)))) (Frz.aggc (Frz.pure rfl) (Frz.aggc Frz.nils (Frz.aggc (Frz.pure rfl) (Frz.aggc (Frz.pure rfl) Frz.aggn))))) (right_ok (he1 [] (by rw [k1, k2]; rfl)) q1 q2) (FlatI.sca rfl) rfl rfl ?_
       refine GL.un I0.mono rfl ?_
       refine GL.move I0.mono (by conv => lhs; whnf) ?_
       refine GL.guardT rfl ?_
       refine GL.loadW I0.mono (n := 4) rfl rfl rfl rfl (by simp) rfl rfl rfl ?_
       refine GL.guardT rfl ?_
       refine GL.move I0.mono (by conv => lhs; whnf) ?_
       refine GL.guardT rfl ?_
       refine GL.move I0.mono (by conv => lhs; whnf) ?_
       refine GL.guardT rfl ?_
       refine GL.move I0.mono (by conv => lhs; whnf) ?_
       refine GL.guardT rfl ?_
       refine GL.sliceTo I0.mono (sz := 1) rfl rfl rfl rfl (by intro e he; obtain ⟨a, -, rfl⟩ := List.mem_map.1 he; rfl) (by omega) (by omega) (by rfl) ?_
       refine GL.guardT rfl ?_
       refine GL.appendSl I0.mono (f := ni) (l := s.take y.toNat) (sz := 1) (z := [.int .i64 0]) rfl rfl rfl rfl rfl (by decide) (Nat.le_of_ble_eq_true rfl) rfl rfl (fun _ => rfl) (fun _ => rfl) (k3) (by (rw [List.length_take]; omega)) ?_
       intro g103
       refine GL.guardT rfl ?_
       refine GL.move I0.mono (by conv => lhs; whnf) ?_
       refine GL.guardT rfl ?_
       refine GL.move I0.mono (by conv => lhs; whnf) ?_
       refine GL.guardT rfl ?_
       refine GL.sliceFrom I0.mono (sz := 1) rfl rfl rfl rfl (by intro e he; obtain ⟨a, -, rfl⟩ := List.mem_map.1 he; rfl) (by omega) (by omega) (by rfl) ?_
       refine GL.guardT rfl ?_
       refine GL.appendO I0.mono (f := ni) (l := s.take y.toNat) (l2 := r.drop x.toNat) (n2 := (r.drop x.toNat).length) (sz := 1) (z := [.int .i64 0]) rfl rfl rfl rfl rfl (by decide) (Nat.le_of_ble_eq_true rfl) rfl rfl rfl rfl rfl rfl rfl rfl rfl (fun _ => rfl) (fun _ => rfl) rfl (k4) (by rw [List.length_take, List.length_drop]; omega) ?_
       refine GL.guardT rfl ?_
       refine GL.move I0.mono (by conv => lhs; whnf) ?_
       refine GL.guardT rfl ?_
       refine GL.move I0.mono (by conv => lhs; whnf) ?_
       refine GL.guardT rfl ?_
       refine GL.callFlT rfl (Frz.aggc (Frz.aggc (by exact Frz.pure rfl) (Frz.aggc (by exact Frz.pure rfl) (Frz.aggc (by exact Frz.pure rfl) (Frz.aggc (by exact Frz.pure rfl) Frz.aggn)))) (Frz.aggc (Frz.pure rfl) (Frz.aggc (Frz.whole rfl rfl rfl rfl (by rw [em_len, List.length_append])) (Frz.aggc (Frz.pure rfl) (Frz.aggc (Frz.pure rfl) Frz.aggn))))) (right_ok (he2 (s.take y.toNat ++ r.drop x.toNat) rfl) q3 q4) (FlatI.sca rfl) rfl rfl ?_
       refine GL.guardT rfl ?_
       refine GL.un I0.mono rfl ?_
       refine GL.pick I0.mono rfl (by conv => lhs; whnf) ?_
       refine GL.doneT (by kernel_rfl) ?_
       refine ⟨_, (LessS.weak (LessS.upd (LessS.upd (LessS.upd (LessS.upd (LessS.nil _) rfl) rfl) rfl) rfl) _), _, _, trivial, _, (congrArg (St.mk _) (effM_eq (Has.cons rfl (Has.cons rfl Has.nil))).symm)⟩
    ·skip
     rcases (show s.take y.toNat = [] ∨ 0 < (s.take y.toNat).length by cases s.take y.toNat with | nil => exact .inl rfl | cons a r => exact .inr (by simp)) with k3 | k3
     ·skip
      rcases (show r.drop x.toNat = [] ∨ 0 < (r.drop x.toNat).length by cases r.drop x.toNat with | nil => exact .inl rfl | cons a r => exact .inr (by simp)) with k4 | k4
      ·skip
       refine Wp.regD ?_
       refine GL.loadW I0.mono (n := 4) rfl rfl rfl rfl (by simp) rfl rfl rfl ?_
       refine GL.move I0.mono (by conv => lhs; whnf) ?_
       refine GL.move I0.mono (by conv => lhs; whnf) ?_
       refine GL.move I0.mono (by conv => lhs; whnf) ?_
       refine GL.sliceTo I0.mono (sz := 1) rfl rfl rfl rfl (by intro e he; obtain ⟨a, -, rfl⟩ := List.mem_map.1 he; rfl) (by omega) (by omega) (by rfl) ?_
       refine GL.appendNil I0.mono rfl rfl rfl rfl (show LV.sl (em ni (r.take x.toNat)) = .sl [] by rw [k1]; rfl) ?_
       refine GL.move I0.mono (by conv => lhs; whnf) ?_
       refine GL.move I0.mono (by conv => lhs; whnf) ?_
       refine GL.sliceFrom I0.mono (sz := 1) rfl rfl rfl rfl (by intro e he; obtain ⟨a, -, rfl⟩ := List.mem_map.1 he; rfl) (by omega) (by omega) (by rfl) ?_
       refine GL.appendSl I0.mono (f := ni) (l := s.drop y.toNat) (sz := 1) (z := [.int .i64 0]) rfl rfl rfl rfl rfl (by decide) (Nat.le_of_ble_eq_true rfl) rfl rfl (fun _ => rfl) (fun _ => rfl) (k2) (by (rw [List.length_drop]; omega)) ?_
       intro g92
       refine GL.move I0.mono (by conv => lhs; whnf) ?_
       refine GL.move I0.mono (by conv => lhs; whnf) ?_
       refine GL.callFlT rfl (Frz.aggc (Frz.aggc (by exact Frz.pure rfl) (Frz.aggc (by exact Frz.pure rfl) (Frz.aggc (by exact Frz.pure rfl) (Frz.aggc (by exact Frz.pure rfl) Frz.aggn)))) (Frz.aggc (Frz.pure rfl) (Frz.aggc (Frz.whole rfl rfl rfl rfl (by rw [em_len])) (Frz.aggc (Frz.pure rfl) (Frz.aggc (Frz.pure rfl) Frz.aggn))))) (right_ok (he1 (s.drop y.toNat) (by rw [k1]; rfl)) q1 q2) (FlatI.sca rfl) rfl rfl ?_
       refine GL.un I0.mono rfl ?_
       refine GL.move I0.mono (by conv => lhs; whnf) ?_
       refine GL.guardT rfl ?_
       refine GL.loadW I0.mono (n := 4) rfl rfl rfl rfl (by simp) rfl rfl rfl ?_
       refine GL.guardT rfl ?_
       refine GL.move I0.mono (by conv => lhs; whnf) ?_
       refine GL.guardT rfl ?_
       refine GL.move I0.mono (by conv => lhs; whnf) ?_
       refine GL.guardT rfl ?_
       refine GL.move I0.mono (by conv => lhs; whnf) ?_
       refine GL.guardT rfl ?_
       refine GL.sliceTo I0.mono (sz := 1) rfl rfl rfl rfl (by intro e he; obtain ⟨a, -, rfl⟩ := List.mem_map.1 he; rfl) (by omega) (by omega) (by rfl) ?_
       refine GL.guardT rfl ?_
       refine GL.appendNil I0.mono rfl rfl rfl rfl (show LV.sl (em ni (s.take y.toNat)) = .sl [] by rw [k3]; rfl) ?_
       refine GL.guardT rfl ?_
       refine GL.move I0.mono (by conv => lhs; whnf) ?_
       refine GL.guardT rfl ?_
       refine GL.move I0.mono (by conv => lhs; whnf) ?_
       refine GL.guardT rfl ?_
       refine GL.sliceFrom I0.mono (sz := 1) rfl rfl rfl rfl (by intro e he; obtain ⟨a, -, rfl⟩ := List.mem_map.1 he; rfl) (by omega) (by omega) (by rfl) ?_
       refine GL.guardT rfl ?_
       refine GL.appendNil I0.mono rfl rfl rfl rfl (show LV.sl (em ni (r.drop x.toNat)) = .sl [] by rw [k4]; rfl) ?_
       refine GL.guardT rfl ?_
       refine GL.move I0.mono (by conv => lhs; whnf) ?_
       refine GL.guardT rfl ?_
       refine GL.move I0.mono (by conv => lhs; whnf) ?_
       refine GL.guardT rfl ?_
       refine GL.callFlT rfl (Frz.aggc (Frz.aggc (by exact Frz.pure rfl) (Frz.aggc (by exact Frz.pure rfl) (Frz.aggc (by exact Frz.pure rfl) (Frz.aggc (by exact Frz.pure rfl) Frz.aggn)))) (Frz.aggc (Frz.pure rfl) (Frz.aggc Frz.nils (Frz.aggc (Frz.pure rfl) (Frz.aggc (Frz.pure rfl) Frz.aggn))))) (right_ok (he2 [] (by rw [k3, k4]; rfl)) q3 q4) (FlatI.sca rfl) rfl rfl ?_
       refine GL.guardT rfl ?_
       refine GL.un I0.mono rfl ?_
       refine GL.pick I0.mono rfl (by conv => lhs; whnf) ?_
       refine GL.doneT (by kernel_rfl) ?_
       refine ⟨_, (LessS.weak (LessS.upd (LessS.upd (LessS.upd (LessS.upd (LessS.nil _) rfl) rfl) rfl) rfl) _), _, _, trivial, _, (congrArg (St.mk _) (effM_eq (Has.cons rfl (Has.cons rfl Has.nil))).symm)⟩
      ·skip
       refine Wp.regD ?_
       refine GL.loadW I0.mono (n := 4) rfl rfl rfl rfl (by simp) rfl rfl rfl ?_
       refine GL.move I0.mono (by conv => lhs; whnf) ?_
       refine GL.move I0.mono (by conv => lhs; whnf) ?_
       refine GL.move I0.mono (by conv => lhs; whnf) ?_
       refine GL.sliceTo I0.mono (sz := 1) rfl rfl rfl rfl (by intro e he; obtain ⟨a, -, rfl⟩ := List.mem_map.1 he; rfl) (by omega) (by omega) (by rfl) ?_
       refine GL.appendNil I0.mono rfl rfl rfl rfl (show LV.sl (em ni (r.take x.toNat)) = .sl [] by rw [k1]; rfl) ?_
       refine GL.move I0.mono (by conv => lhs; whnf) ?_
       refine GL.move I0.mono (by conv => lhs; whnf) ?_
       refine GL.sliceFrom I0.mono (sz := 1) rfl rfl rfl rfl (by intro e he; obtain ⟨a, -, rfl⟩ := List.mem_map.1 he; rfl) (by omega) (by omega) (by rfl) ?_
       refine GL.appendSl I0.mono (f := ni) (l := s.drop y.toNat) (sz := 1) (z := [.int .i64 0]) rfl rfl rfl rfl rfl (by decide) (Nat.le_of_ble_eq_true rfl) rfl rfl (fun _ => rfl) (fun _ => rfl) (k2) (by (rw [List.length_drop]; omega)) ?_
       intro g92
       refine GL.move I0.mono (by conv => lhs; whnf) ?_
       refine GL.move I0.mono (by conv => lhs; whnf) ?_
       refine GL.callFlT rfl (Frz.aggc (Frz.aggc (by exact Frz.pure rfl) (Frz.aggc (by exact Frz.pure rfl) (Frz.aggc (by exact Frz.pure rfl) (Frz.aggc (by exact Frz.pure rfl) Frz.aggn)))) (Frz.aggc (Frz.pure rfl) (Frz.aggc (Frz.whole rfl rfl rfl rfl (by rw [em_len])) (Frz.aggc (Frz.pure rfl) (Frz.aggc (Frz.pure rfl) Frz.aggn))))) (right_ok (he1 (s.drop y.toNat) (by rw [k1]; rfl)) q1 q2) (FlatI.sca rfl) rfl rfl ?_
       refine GL.un I0.mono rfl ?_
       refine GL.move I0.mono (by conv => lhs; whnf) ?_
       refine GL.guardT rfl ?_
       refine GL.loadW I0.mono (n := 4) rfl rfl rfl rfl (by simp) rfl rfl rfl ?_
       refine GL.guardT rfl ?_
       refine GL.move I0.mono (by conv => lhs; whnf) ?_
       refine GL.guardT rfl ?_
       refine GL.move I0.mono (by conv => lhs; whnf) ?_
       refine GL.guardT rfl ?_
       refine GL.move I0.mono (by conv => lhs; whnf) ?_
       refine GL.guardT rfl ?_
       refine GL.sliceTo I0.mono (sz := 1) rfl rfl rfl rfl (by intro e he; obtain ⟨a, -, rfl⟩ := List.mem_map.1 he; rfl) (by omega) (by omega) (by rfl) ?_
       refine GL.guardT rfl ?_
       refine GL.appendNil I0.mono rfl rfl rfl rfl (show LV.sl (em ni (s.take y.toNat)) = .sl [] by rw [k3]; rfl) ?_
       refine GL.guardT rfl ?_
       refine GL.move I0.mono (by conv => lhs; whnf) ?_
       refine GL.guardT rfl ?_
       refine GL.move I0.mono (by conv => lhs; whnf) ?_
       refine GL.guardT rfl ?_
       refine GL.sliceFrom I0.mono (sz := 1) rfl rfl rfl rfl (by intro e he; obtain ⟨a, -, rfl⟩ := List.mem_map.1 he; rfl) (by omega) (by omega) (by rfl) ?_
       refine GL.guardT rfl ?_
       refine GL.appendSl I0.mono (f := ni) (l := r.drop x.toNat) (sz := 1) (z := [.int .i64 0]) rfl rfl rfl rfl rfl (by decide) (Nat.le_of_ble_eq_true rfl) rfl rfl (fun _ => rfl) (fun _ => rfl) (k4) (by (rw [List.length_drop]; omega)) ?_
       intro g107
       refine GL.guardT rfl ?_
       refine GL.move I0.mono (by conv => lhs; whnf) ?_
       refine GL.guardT rfl ?_
       refine GL.move I0.mono (by conv => lhs; whnf) ?_
       refine GL.guardT rfl ?_
       refine GL.callFlT rfl (Frz.aggc (Frz.aggc (by exact Frz.pure rfl) (Frz.aggc (by exact Frz.pure rfl) (Frz.aggc (by exact Frz.pure rfl) (Frz.aggc (by exact Frz.pure rfl) Frz.aggn)))) (Frz.aggc (Frz.pure rfl) (Frz.aggc (Frz.whole rfl rfl rfl rfl (by rw [em_len])) (Frz.aggc (Frz.pure rfl) (Frz.aggc (Frz.pure rfl) Frz.aggn))))) (right_ok (he2 (r.drop x.toNat) (by rw [k3]; rfl)) q3 q4) (FlatI.sca rfl) rfl rfl ?_
       refine GL.guardT rfl ?_
       refine GL.un I0.mono rfl ?_
       refine GL.pick I0.mono rfl (by conv => lhs; whnf) ?_
       refine GL.doneT (by kernel_rfl) ?_
       refine ⟨_, (LessS.weak (LessS.upd (LessS.upd (LessS.upd (LessS.upd (LessS.nil _) rfl) rfl) rfl) rfl) _), _, _, trivial, _, (congrArg (St.mk _) (effM_eq (Has.cons rfl (Has.cons rfl Has.nil))).symm)⟩
     ·skip
      rcases (show r.drop x.toNat = [] ∨ 0 < (r.drop x.toNat).length by cases r.drop x.toNat with | nil => exact .inl rfl | cons a r => exact .inr (by simp)) with k4 | k4
      ·skip
       refine Wp.regD ?_
       refine GL.loadW I0.mono (n := 4) rfl rfl rfl rfl (by simp) rfl rfl rfl ?_
       refine GL.move I0.mono (by conv => lhs; whnf) ?_
       refine GL.move I0.mono (by conv => lhs; whnf) ?_
       refine GL.move I0.mono (by conv => lhs; whnf) ?_
       refine GL.sliceTo I0.mono (sz := 1) rfl rfl rfl rfl (by intro e he; obtain ⟨a, -, rfl⟩ := List.mem_map.1 he; rfl) (by omega) (by omega) (by rfl) ?_
       refine GL.appendNil I0.mono rfl rfl rfl rfl (show LV.sl (em ni (r.take x.toNat)) = .sl [] by rw [k1]; rfl) ?_
       refine GL.move I0.mono (by conv => lhs; whnf) ?_
       refine GL.move I0.mono (by conv => lhs; whnf) ?_
       refine GL.sliceFrom I0.mono (sz := 1) rfl rfl rfl rfl (by intro e he; obtain ⟨a, -, rfl⟩ := List.mem_map.1 he; rfl) (by omega) (by omega) (by rfl) ?_
       refine GL.appendSl I0.mono (f := ni) (l := s.drop y.toNat) (sz := 1) (z := [.int .i64 0]) rfl rfl rfl rfl rfl (by decide) (Nat.le_of_ble_eq_true rfl) rfl rfl (fun _ => rfl) (fun _ => rfl) (k2) (by (rw [List.length_drop]; omega)) ?_
       intro g92
       refine GL.move I0.mono (by conv => lhs; whnf) ?_
       refine GL.move I0.mono (by conv => lhs; whnf) ?_
       refine GL.callFlT rfl (Frz.aggc (Frz.aggc (by exact Frz.pure rfl) (Frz.aggc (by exact Frz.pure rfl) (Frz.aggc (by exact Frz.pure rfl) (Frz.aggc (by exact Frz.pure rfl) Frz.aggn)))) (Frz.aggc (Frz.pure rfl) (Frz.aggc (Frz.whole rfl rfl rfl rfl (by rw [em_len])) (Frz.aggc (Frz.pure rfl) (Frz.aggc (Frz.pure rfl) Frz.aggn))))) (right_ok (he1 (s.drop y.toNat) (by rw [k1]; rfl)) q1 q2) (FlatI.sca rfl) rfl rfl ?_
       refine GL.un I0.mono rfl ?_
       refine GL.move I0.mono (by conv => lhs; whnf) ?_
       refine GL.guardT rfl ?_
       refine GL.loadW I0.mono (n := 4) rfl rfl rfl rfl (by simp) rfl rfl rfl ?_
       refine GL.guardT rfl ?_
       refine GL.move I0.mono (by conv => lhs; whnf) ?_
       refine GL.guardT rfl ?_
       refine GL.move I0.mono (by conv => lhs; whnf) ?_
       refine GL.guardT rfl ?_
       refine GL.move I0.mono (by conv => lhs; whnf) ?_
       refine GL.guardT rfl ?_
       refine GL.sliceTo I0.mono (sz := 1) rfl rfl rfl rfl (by intro e he; obtain ⟨a, -, rfl⟩ := List.mem_map.1 he; rfl) (by omega) (by omega) (by rfl) ?_
       refine GL.guardT rfl ?_
       refine GL.appendSl I0.mono (f := ni) (l := s.take y.toNat) (sz := 1) (z := [.int .i64 0]) rfl rfl rfl rfl rfl (by decide) (Nat.le_of_ble_eq_true rfl) rfl rfl (fun _ => rfl) (fun _ => rfl) (k3) (by (rw [List.length_take]; omega)) ?_
       intro g103
       refine GL.guardT rfl ?_
       refine GL.move I0.mono (by conv => lhs; whnf) ?_
       refine GL.guardT rfl ?_
       refine GL.move I0.mono (by conv => lhs; whnf) ?_
       refine GL.guardT rfl ?_
       refine GL.sliceFrom I0.mono (sz := 1) rfl rfl rfl rfl (by intro e he; obtain ⟨a, -, rfl⟩ := List.mem_map.1 he; rfl) (by omega) (by omega) (by rfl) ?_
       refine GL.guardT rfl ?_
       refine GL.appendE I0.mono rfl rfl rfl rfl rfl rfl (show LV.sl (em ni (r.drop x.toNat)) = .sl [] by rw [k4]; rfl) ?_
       refine GL.guardT rfl ?_
       refine GL.move I0.mono (by conv => lhs; whnf) ?_
       refine GL.guardT rfl ?_
       refine GL.move I0.mono (by conv => lhs; whnf) ?_
       refine GL.guardT rfl ?_
       refine GL.callFlT rfl (Frz.aggc (Frz.aggc (by exact Frz.pure rfl) (Frz.aggc (by exact Frz.pure rfl) (Frz.aggc (by exact Frz.pure rfl) (Frz.aggc (by exact Frz.pure rfl) Frz.aggn)))) (Frz.aggc (Frz.pure rfl) (Frz.aggc (Frz.whole rfl rfl rfl rfl (by rw [em_len])) (Frz.aggc (Frz.pure rfl) (Frz.aggc (Frz.pure rfl) Frz.aggn))))) (right_ok (he2 (s.take y.toNat) (by rw [k4, List.append_nil])) q3 q4) (FlatI.sca rfl) rfl rfl ?_
       refine GL.guardT rfl ?_
       refine GL.un I0.mono rfl ?_
       refine GL.pick I0.mono rfl (by conv => lhs; whnf) ?_
       refine GL.doneT (by kernel_rfl) ?_
       refine ⟨_, (LessS.weak (LessS.upd (LessS.upd (LessS.upd (LessS.upd (LessS.nil _) rfl) rfl) rfl) rfl) _), _, _, trivial, _, (congrArg (St.mk _) (effM_eq (Has.cons rfl (Has.cons rfl Has.nil))).symm)⟩
      ·skip
       refine Wp.regD ?_
       refine GL.loadW I0.mono (n := 4) rfl rfl rfl rfl (by simp) rfl rfl rfl ?_
       refine GL.move I0.mono (by conv => lhs; whnf) ?_
       refine GL.move I0.mono (by conv => lhs; whnf) ?_
       refine GL.move I0.mono (by conv => lhs; whnf) ?_
       refine GL.sliceTo I0.mono (sz := 1) rfl rfl rfl rfl (by intro e he; obtain ⟨a, -, rfl⟩ := List.mem_map.1 he; rfl) (by omega) (by omega) (by rfl) ?_
       refine GL.appendNil I0.mono rfl rfl rfl rfl (show LV.sl (em ni (r.take x.toNat)) = .sl [] by rw [k1]; rfl) ?_
       refine GL.move I0.mono (by conv => lhs; whnf) ?_
       refine GL.move I0.mono (by conv => lhs; whnf) ?_
       refine GL.sliceFrom I0.mono (sz := 1) rfl rfl rfl rfl (by intro e he; obtain ⟨a, -, rfl⟩ := List.mem_map.1 he; rfl) (by omega) (by omega) (by rfl) ?_
       refine GL.appendSl I0.mono (f := ni) (l := s.drop y.toNat) (sz := 1) (z := [.int .i64 0]) rfl rfl rfl rfl rfl (by decide) (Nat.le_of_ble_eq_true rfl) rfl rfl (fun _ => rfl) (fun _ => rfl) (k2) (by (rw [List.length_drop]; omega)) ?_
       intro g92
       refine GL.move I0.mono (by conv => lhs; whnf) ?_
       refine GL.move I0.mono (by conv => lhs; whnf) ?_
       refine GL.callFlT rfl (Frz.aggc (Frz.aggc (by exact Frz.pure rfl) (Frz.aggc (by exact Frz.pure rfl) (Frz.aggc (by exact Frz.pure rfl) (Frz.aggc (by exact Frz.pure rfl) Frz.aggn)))) (Frz.aggc (Frz.pure rfl) (Frz.aggc (Frz.whole rfl rfl rfl rfl (by rw [em_len])) (Frz.aggc (Frz.pure rfl) (Frz.aggc (Frz.pure rfl) Frz.aggn))))) (right_ok (he1 (s.drop y.toNat) (by rw [k1]; rfl)) q1 q2) (FlatI.sca rfl) rfl rfl ?_
       refine GL.un I0.mono rfl ?_
       refine GL.move I0.mono (by conv => lhs; whnf) ?_
       refine GL.guardT rfl ?_
       refine GL.loadW I0.mono (n := 4) rfl rfl rfl rfl (by simp) rfl rfl rfl ?_
       refine GL.guardT rfl ?_
       refine GL.move I0.mono (by conv => lhs; whnf) ?_
       refine GL.guardT rfl ?_
       refine GL.move I0.mono (by conv => lhs; whnf) ?_
       refine GL.guardT rfl ?_
       refine GL.move I0.mono (by conv => lhs; whnf) ?_
       refine GL.guardT rfl ?_
       refine GL.sliceTo I0.mono (sz := 1) rfl rfl rfl rfl (by intro e he; obtain ⟨a, -, rfl⟩ := List.mem_map.1 he; rfl) (by omega) (by omega) (by rfl) ?_
       refine GL.guardT rfl ?_
       refine GL.appendSl I0.mono (f := ni) (l := s.take y.toNat) (sz := 1) (z := [.int .i64 0]) rfl rfl rfl rfl rfl (by decide) (Nat.le_of_ble_eq_true rfl) rfl rfl (fun _ => rfl) (fun _ => rfl) (k3) (by (rw [List.length_take]; omega)) ?_
       intro g103
       refine GL.guardT rfl ?_
       refine GL.move I0.mono (by conv => lhs; whnf) ?_
       refine GL.guardT rfl ?_
       refine GL.move I0.mono (by conv => lhs; whnf) ?_
       refine GL.guardT rfl ?_
       refine GL.sliceFrom I0.mono (sz := 1) rfl rfl rfl rfl (by intro e he; obtain ⟨a, -, rfl⟩ := List.mem_map.1 he; rfl) (by omega) (by omega) (by rfl) ?_
       refine GL.guardT rfl ?_
       refine GL.appendO I0.mono (f := ni) (l := s.take y.toNat) (l2 := r.drop x.toNat) (n2 := (r.drop x.toNat).length) (sz := 1) (z := [.int .i64 0]) rfl rfl rfl rfl rfl (by decide) (Nat.le_of_ble_eq_true rfl) rfl rfl rfl rfl rfl rfl rfl rfl rfl (fun _ => rfl) (fun _ => rfl) rfl (k4) (by rw [List.length_take, List.length_drop]; omega) ?_
       refine GL.guardT rfl ?_
       refine GL.move I0.mono (by conv => lhs; whnf) ?_
       refine GL.guardT rfl ?_
       refine GL.move I0.mono (by conv => lhs; whnf) ?_
       refine GL.guardT rfl ?_
       refine GL.callFlT rfl (Frz.aggc (Frz.aggc (by exact Frz.pure rfl) (Frz.aggc (by exact Frz.pure rfl) (Frz.aggc (by exact Frz.pure rfl) (Frz.aggc (by exact Frz.pure rfl) Frz.aggn)))) (Frz.aggc (Frz.pure rfl) (Frz.aggc (Frz.whole rfl rfl rfl rfl (by rw [em_len, List.length_append])) (Frz.aggc (Frz.pure rfl) (Frz.aggc (Frz.pure rfl) Frz.aggn))))) (right_ok (he2 (s.take y.toNat ++ r.drop x.toNat) rfl) q3 q4) (FlatI.sca rfl) rfl rfl ?_
       refine GL.guardT rfl ?_
       refine GL.un I0.mono rfl ?_
       refine GL.pick I0.mono rfl (by conv => lhs; whnf) ?_
       refine GL.doneT (by kernel_rfl) ?_
       refine ⟨_, (LessS.weak (LessS.upd (LessS.upd (LessS.upd (LessS.upd (LessS.nil _) rfl) rfl) rfl) rfl) _), _, _, trivial, _, (congrArg (St.mk _) (effM_eq (Has.cons rfl (Has.cons rfl Has.nil))).symm)⟩
   ·skip
    rcases (show s.drop y.toNat = [] ∨ 0 < (s.drop y.toNat).length by cases s.drop y.toNat with | nil => exact .inl rfl | cons a r => exact .inr (by simp)) with k2 | k2
    ·skip
     rcases (show s.take y.toNat = [] ∨ 0 < (s.take y.toNat).length by cases s.take y.toNat with | nil => exact .inl rfl | cons a r => exact .inr (by simp)) with k3 | k3
     ·skip
      rcases (show r.drop x.toNat = [] ∨ 0 < (r.drop x.toNat).length by cases r.drop x.toNat with | nil => exact .inl rfl | cons a r => exact .inr (by simp)) with k4 | k4
      ·skip
       refine Wp.regD ?_
       refine GL.loadW I0.mono (n := 4) rfl rfl rfl rfl (by simp) rfl rfl rfl ?_
       refine GL.move I0.mono (by conv => lhs; whnf) ?_
       refine GL.move I0.mono (by conv => lhs; whnf) ?_
       refine GL.move I0.mono (by conv => lhs; whnf) ?_
       refine GL.sliceTo I0.mono (sz := 1) rfl rfl rfl rfl (by intro e he; obtain ⟨a, -, rfl⟩ := List.mem_map.1 he; rfl) (by omega) (by omega) (by rfl) ?_
       refine GL.appendSl I0.mono (f := ni) (l := r.take x.toNat) (sz := 1) (z := [.int .i64 0]) rfl rfl rfl rfl rfl (by decide) (Nat.le_of_ble_eq_true rfl) rfl rfl (fun _ => rfl) (fun _ => rfl) (k1) (by (rw [List.length_take]; omega)) ?_
       intro g88
       refine GL.move I0.mono (by conv => lhs; whnf) ?_
       refine GL.move I0.mono (by conv => lhs; whnf) ?_
       refine GL.sliceFrom I0.mono (sz := 1) rfl rfl rfl rfl (by intro e he; obtain ⟨a, -, rfl⟩ := List.mem_map.1 he; rfl) (by omega) (by omega) (by rfl) ?_
       refine GL.appendE I0.mono rfl rfl rfl rfl rfl rfl (show LV.sl (em ni (s.drop y.toNat)) = .sl [] by rw [k2]; rfl) ?_
       refine GL.move I0.mono (by conv => lhs; whnf) ?_
       refine GL.move I0.mono (by conv => lhs; whnf) ?_
       refine GL.callFlT rfl (Frz.aggc (Frz.aggc (by exact Frz.pure rfl) (Frz.aggc (by exact Frz.pure rfl) (Frz.aggc (by exact Frz.pure rfl) (Frz.aggc (by exact Frz.pure rfl) Frz.aggn)))) (Frz.aggc (Frz.pure rfl) (Frz.aggc (Frz.whole rfl rfl rfl rfl (by rw [em_len])) (Frz.aggc (Frz.pure rfl) (Frz.aggc (Frz.pure rfl) Frz.aggn))))) (right_ok (he1 (r.take x.toNat) (by rw [k2, List.append_nil])) q1 q2) (FlatI.sca rfl) rfl rfl ?_
       refine GL.un I0.mono rfl ?_
       refine GL.move I0.mono (by conv => lhs; whnf) ?_
       refine GL.guardT rfl ?_
       refine GL.loadW I0.mono (n := 4) rfl rfl rfl rfl (by simp) rfl rfl rfl ?_
       refine GL.guardT rfl ?_
       refine GL.move I0.mono (by conv => lhs; whnf) ?_
       refine GL.guardT rfl ?_
       refine GL.move I0.mono (by conv => lhs; whnf) ?_
       refine GL.guardT rfl ?_
       refine GL.move I0.mono (by conv => lhs; whnf) ?_
       refine GL.guardT rfl ?_
       refine GL.sliceTo I0.mono (sz := 1) rfl rfl rfl rfl (by intro e he; obtain ⟨a, -, rfl⟩ := List.mem_map.1 he; rfl) (by omega) (by omega) (by rfl) ?_
       refine GL.guardT rfl ?_
       refine GL.appendNil I0.mono rfl rfl rfl rfl (show LV.sl (em ni (s.take y.toNat)) = .sl [] by rw [k3]; rfl) ?_
       refine GL.guardT rfl ?_
       refine GL.move I0.mono (by conv => lhs; whnf) ?_
       refine GL.guardT rfl ?_
       refine GL.move I0.mono (by conv => lhs; whnf) ?_
       refine GL.guardT rfl ?_
       refine GL.sliceFrom I0.mono (sz := 1) rfl rfl rfl rfl (by intro e he; obtain ⟨a, -, rfl⟩ := List.mem_map.1 he; rfl) (by omega) (by omega) (by rfl) ?_
       refine GL.guardT rfl ?_
       refine GL.appendNil I0.mono rfl rfl rfl rfl (show LV.sl (em ni (r.drop x.toNat)) = .sl [] by rw [k4]; rfl) ?_
       refine GL.guardT rfl ?_
       refine GL.move I0.mono (by conv => lhs; whnf) ?_
       refine GL.guardT rfl ?_
       refine GL.move I0.mono (by conv => lhs; whnf) ?_
       refine GL.guardT rfl ?_
       refine GL.callFlT rfl (Frz.aggc (Frz.aggc (by exact Frz.pure rfl) (Frz.aggc (by exact Frz.pure rfl) (Frz.aggc (by exact Frz.pure rfl) (Frz.aggc (by exact Frz.pure rfl) Frz.aggn)))) (Frz.aggc (Frz.pure rfl) (Frz.aggc Frz.nils (Frz.aggc (Frz.pure rfl) (Frz.aggc (Frz.pure rfl) Frz.aggn))))) (right_ok (he2 [] (by rw [k3, k4]; rfl)) q3 q4) (FlatI.sca rfl) rfl rfl ?_
       refine GL.guardT rfl ?_
       refine GL.un I0.mono rfl ?_
       refine GL.pick I0.mono rfl (by conv => lhs; whnf) ?_
       refine GL.doneT (by kernel_rfl) ?_
       refine ⟨_, (LessS.weak (LessS.upd (LessS.upd (LessS.upd (LessS.upd (LessS.nil _) rfl) rfl) rfl) rfl) _), _, _, trivial, _, (congrArg (St.mk _) (effM_eq (Has.cons rfl (Has.cons rfl Has.nil))).symm)⟩
      ·skip
       refine Wp.regD ?_
       refine GL.loadW I0.mono (n := 4) rfl rfl rfl rfl (by simp) rfl rfl rfl ?_
       refine GL.move I0.mono (by conv => lhs; whnf) ?_
       refine GL.move I0.mono (by conv => lhs; whnf) ?_
       refine GL.move I0.mono (by conv => lhs; whnf) ?_
       refine GL.sliceTo I0.mono (sz := 1) rfl rfl rfl rfl (by intro e he; obtain ⟨a, -, rfl⟩ := List.mem_map.1 he; rfl) (by omega) (by omega) (by rfl) ?_
       refine GL.appendSl I0.mono (f := ni) (l := r.take x.toNat) (sz := 1) (z := [.int .i64 0]) rfl rfl rfl rfl rfl (by decide) (Nat.le_of_ble_eq_true rfl) rfl rfl (fun _ => rfl) (fun _ => rfl) (k1) (by (rw [List.length_take]; omega)) ?_
       intro g88
       refine GL.move I0.mono (by conv => lhs; whnf) ?_
       refine GL.move I0.mono (by conv => lhs; whnf) ?_
       refine GL.sliceFrom I0.mono (sz := 1) rfl rfl rfl rfl (by intro e he; obtain ⟨a, -, rfl⟩ := List.mem_map.1 he; rfl) (by omega) (by omega) (by rfl) ?_
       refine GL.appendE I0.mono rfl rfl rfl rfl rfl rfl (show LV.sl (em ni (s.drop y.toNat)) = .sl [] by rw [k2]; rfl) ?_
       refine GL.move I0.mono (by conv => lhs; whnf) ?_
       refine GL.move I0.mono (by conv => lhs; whnf) ?_
       refine GL.callFlT rfl (Frz.aggc (Frz.aggc (by exact Frz.pure rfl) (Frz.aggc (by exact Frz.pure rfl) (Frz.aggc (by exact Frz.pure rfl) (Frz.aggc (by exact Frz.pure rfl) Frz.aggn)))) (Frz.aggc (Frz.pure rfl) (Frz.aggc (Frz.whole rfl rfl rfl rfl (by rw [em_len])) (Frz.aggc (Frz.pure rfl) (Frz.aggc (Frz.pure rfl) Frz.aggn))))) (right_ok (he1 (r.take x.toNat) (by rw [k2, List.append_nil])) q1 q2) (FlatI.sca rfl) rfl rfl ?_
       refine GL.un I0.mono rfl ?_
       refine GL.move I0.mono (by conv => lhs; whnf) ?_
       refine GL.guardT rfl ?_
       refine GL.loadW I0.mono (n := 4) rfl rfl rfl rfl (by simp) rfl rfl rfl ?_
       refine GL.guardT rfl ?_
       refine GL.move I0.mono (by conv => lhs; whnf) ?_
       refine GL.guardT rfl ?_
       refine GL.move I0.mono (by conv => lhs; whnf) ?_
       refine GL.guardT rfl ?_
       refine GL.move I0.mono (by conv => lhs; whnf) ?_
       refine GL.guardT rfl ?_
       refine GL.sliceTo I0.mono (sz := 1) rfl rfl rfl rfl (by intro e he; obtain ⟨a, -, rfl⟩ := List.mem_map.1 he; rfl) (by omega) (by omega) (by rfl) ?_
       refine GL.guardT rfl ?_
       refine GL.appendNil I0.mono rfl rfl rfl rfl (show LV.sl (em ni (s.take y.toNat)) = .sl [] by rw [k3]; rfl) ?_
       refine GL.guardT rfl ?_
       refine GL.move I0.mono (by conv => lhs; whnf) ?_
       refine GL.guardT rfl ?_
       refine GL.move I0.mono (by conv => lhs; whnf) ?_
       refine GL.guardT rfl ?_
       refine GL.sliceFrom I0.mono (sz := 1) rfl rfl rfl rfl (by intro e he; obtain ⟨a, -, rfl⟩ := List.mem_map.1 he; rfl) (by omega) (by omega) (by rfl) ?_
       refine GL.guardT rfl ?_
       refine GL.appendSl I0.mono (f := ni) (l := r.drop x.toNat) (sz := 1) (z := [.int .i64 0]) rfl rfl rfl rfl rfl (by decide) (Nat.le_of_ble_eq_true rfl) rfl rfl (fun _ => rfl) (fun _ => rfl) (k4) (by (rw [List.length_drop]; omega)) ?_
       intro g107
       refine GL.guardT rfl ?_
       refine GL.move I0.mono (by conv => lhs; whnf) ?_
       refine GL.guardT rfl ?_
       refine GL.move I0.mono (by conv => lhs; whnf) ?_
       refine GL.guardT rfl ?_
       refine GL.callFlT rfl (Frz.aggc (Frz.aggc (by exact Frz.pure rfl) (Frz.aggc (by exact Frz.pure rfl) (Frz.aggc (by exact Frz.pure rfl) (Frz.aggc (by exact Frz.pure rfl) Frz.aggn)))) (Frz.aggc (Frz.pure rfl) (Frz.aggc (Frz.whole rfl rfl rfl rfl (by rw [em_len])) (Frz.aggc (Frz.pure rfl) (Frz.aggc (Frz.pure rfl) Frz.aggn))))) (right_ok (he2 (r.drop x.toNat) (by rw [k3]; rfl)) q3 q4) (FlatI.sca rfl) rfl rfl ?_
       refine GL.guardT rfl ?_
       refine GL.un I0.mono rfl ?_
       refine GL.pick I0.mono rfl (by conv => lhs; whnf) ?_
       refine GL.doneT (by kernel_rfl) ?_
       refine ⟨_, (LessS.weak (LessS.upd (LessS.upd (LessS.upd (LessS.upd (LessS.nil _) rfl) rfl) rfl) rfl) _), _, _, trivial, _, (congrArg (St.mk _) (effM_eq (Has.cons rfl (Has.cons rfl Has.nil))).symm)⟩
     ·skip
      rcases (show r.drop x.toNat = [] ∨ 0 < (r.drop x.toNat).length by cases r.drop x.toNat with | nil => exact .inl rfl | cons a r => exact .inr (by simp)) with k4 | k4
      ·skip
       refine Wp.regD ?_
       refine GL.loadW I0.mono (n := 4) rfl rfl rfl rfl (by simp) rfl rfl rfl ?_
       refine GL.move I0.mono (by conv => lhs; whnf) ?_
       refine GL.move I0.mono (by conv => lhs; whnf) ?_
       refine GL.move I0.mono (by conv => lhs; whnf) ?_
       refine GL.sliceTo I0.mono (sz := 1) rfl rfl rfl rfl (by intro e he; obtain ⟨a, -, rfl⟩ := List.mem_map.1 he; rfl) (by omega) (by omega) (by rfl) ?_
       refine GL.appendSl I0.mono (f := ni) (l := r.take x.toNat) (sz := 1) (z := [.int .i64 0]) rfl rfl rfl rfl rfl (by decide) (Nat.le_of_ble_eq_true rfl) rfl rfl (fun _ => rfl) (fun _ => rfl) (k1) (by (rw [List.length_take]; omega)) ?_
       intro g88
       refine GL.move I0.mono (by conv => lhs; whnf) ?_
       refine GL.move I0.mono (by conv => lhs; whnf) ?_
       refine GL.sliceFrom I0.mono (sz := 1) rfl rfl rfl rfl (by intro e he; obtain ⟨a, -, rfl⟩ := List.mem_map.1 he; rfl) (by omega) (by omega) (by rfl) ?_
       refine GL.appendE I0.mono rfl rfl rfl rfl rfl rfl (show LV.sl (em ni (s.drop y.toNat)) = .sl [] by rw [k2]; rfl) ?_
       refine GL.move I0.mono (by conv => lhs; whnf) ?_
       refine GL.move I0.mono (by conv => lhs; whnf) ?_
       refine GL.callFlT rfl (Frz.aggc (Frz.aggc (by exact Frz.pure rfl) (Frz.aggc (by exact Frz.pure rfl) (Frz.aggc (by exact Frz.pure rfl) (Frz.aggc (by exact Frz.pure rfl) Frz.aggn)))) (Frz.aggc (Frz.pure rfl) (Frz.aggc (Frz.whole rfl rfl rfl rfl (by rw [em_len])) (Frz.aggc (Frz.pure rfl) (Frz.aggc (Frz.pure rfl) Frz.aggn))))) (right_ok (he1 (r.take x.toNat) (by rw [k2, List.append_nil])) q1 q2) (FlatI.sca rfl) rfl rfl ?_
       refine GL.un I0.mono rfl ?_
       refine GL.move I0.mono (by conv => lhs; whnf) ?_
       refine GL.guardT rfl ?_
       refine GL.loadW I0.mono (n := 4) rfl rfl rfl rfl (by simp) rfl rfl rfl ?_
       refine GL.guardT rfl ?_
       refine GL.move I0.mono (by conv => lhs; whnf) ?_
       refine GL.guardT rfl ?_
       refine GL.move I0.mono (by conv => lhs; whnf) ?_
       refine GL.guardT rfl ?_
       refine GL.move I0.mono (by conv => lhs; whnf) ?_
       refine GL.guardT rfl ?_
       refine GL.sliceTo I0.mono (sz := 1) rfl rfl rfl rfl (by intro e he; obtain ⟨a, -, rfl⟩ := List.mem_map.1 he; rfl) (by omega) (by omega) (by rfl) ?_
       refine GL.guardT rfl ?_
       refine GL.appendSl I0.mono (f := ni) (l := s.take y.toNat) (sz := 1) (z := [.int .i64 0]) rfl rfl rfl rfl rfl (by decide) (Nat.le_of_ble_eq_true rfl) rfl rfl (fun _ => rfl) (fun _ => rfl) (k3) (by (rw [List.length_take]; omega)) ?_
       intro g103
       refine GL.guardT rfl ?_
       refine GL.move I0.mono (by conv => lhs; whnf) ?_
       refine GL.guardT rfl ?_
       refine GL.move I0.mono (by conv => lhs; whnf) ?_
       refine GL.guardT rfl ?_
       refine GL.sliceFrom I0.mono (sz := 1) rfl rfl rfl rfl (by intro e he; obtain ⟨a, -, rfl⟩ := List.mem_map.1 he; rfl) (by omega) (by omega) (by rfl) ?_
       refine GL.guardT rfl ?_
       refine GL.appendE I0.mono rfl rfl rfl rfl rfl rfl (show LV.sl (em ni (r.drop x.toNat)) = .sl [] by rw [k4]; rfl) ?_
       refine GL.guardT rfl ?_
       refine GL.move I0.mono (by conv => lhs; whnf) ?_
       refine GL.guardT rfl ?_
       refine GL.move I0.mono (by conv => lhs; whnf) ?_
       refine GL.guardT rfl ?_
       refine GL.callFlT rfl (Frz.aggc (Frz.aggc (by exact Frz.pure rfl) (Frz.aggc (by exact Frz.pure rfl) (Frz.aggc (by exact Frz.pure rfl) (Frz.aggc (by exact Frz.pure rfl) Frz.aggn)))) (Frz.aggc (Frz.pure rfl) (Frz.aggc (Frz.whole rfl rfl rfl rfl (by rw [em_len])) (Frz.aggc (Frz.pure rfl) (Frz.aggc (Frz.pure rfl) Frz.aggn))))) (right_ok (he2 (s.take y.toNat) (by rw [k4, List.append_nil])) q3 q4) (FlatI.sca rfl) rfl rfl ?_
       refine GL.guardT rfl ?_
       refine GL.un I0.mono rfl ?_
       refine GL.pick I0.mono rfl (by conv => lhs; whnf) ?_
       refine GL.doneT (by kernel_rfl) ?_
       refine ⟨_, (LessS.weak (LessS.upd (LessS.upd (LessS.upd (LessS.upd (LessS.nil _) rfl) rfl) rfl) rfl) _), _, _, trivial, _, (congrArg (St.mk _) (effM_eq (Has.cons rfl (Has.cons rfl Has.nil))).symm)⟩
      ·skip
       refine Wp.regD ?_
       refine GL.loadW I0.mono (n := 4) rfl rfl rfl rfl (by simp) rfl rfl rfl ?_
       refine GL.move I0.mono (by conv => lhs; whnf) ?_
       refine GL.move I0.mono (by conv => lhs; whnf) ?_
       refine GL.move I0.mono (by conv => lhs; whnf) ?_
       refine GL.sliceTo I0.mono (sz := 1) rfl rfl rfl rfl (by intro e he; obtain ⟨a, -, rfl⟩ := List.mem_map.1 he; rfl) (by omega) (by omega) (by rfl) ?_
       refine GL.appendSl I0.mono (f := ni) (l := r.take x.toNat) (sz := 1) (z := [.int .i64 0]) rfl rfl rfl rfl rfl (by decide) (Nat.le_of_ble_eq_true rfl) rfl rfl (fun _ => rfl) (fun _ => rfl) (k1) (by (rw [List.length_take]; omega)) ?_
       intro g88
       refine GL.move I0.mono (by conv => lhs; whnf) ?_
       refine GL.move I0.mono (by conv => lhs; whnf) ?_
       refine GL.sliceFrom I0.mono (sz := 1) rfl rfl rfl rfl (by intro e he; obtain ⟨a, -, rfl⟩ := List.mem_map.1 he; rfl) (by omega) (by omega) (by rfl) ?_
       refine GL.appendE I0.mono rfl rfl rfl rfl rfl rfl (show LV.sl (em ni (s.drop y.toNat)) = .sl [] by rw [k2]; rfl) ?_
       refine GL.move I0.mono (by conv => lhs; whnf) ?_
       refine GL.move I0.mono (by conv => lhs; whnf) ?_
       refine GL.callFlT rfl (Frz.aggc (Frz.aggc (by exact Frz.pure rfl) (Frz.aggc (by exact Frz.pure rfl) (Frz.aggc (by exact Frz.pure rfl) (Frz.aggc (by exact Frz.pure rfl) Frz.aggn)))) (Frz.aggc (Frz.pure rfl) (Frz.aggc (Frz.whole rfl rfl rfl rfl (by rw [em_len])) (Frz.aggc (Frz.pure rfl) (Frz.aggc (Frz.pure rfl) Frz.aggn))))) (right_ok (he1 (r.take x.toNat) (by rw [k2, List.append_nil])) q1 q2) (FlatI.sca rfl) rfl rfl ?_
       refine GL.un I0.mono rfl ?_
       refine GL.move I0.mono (by conv => lhs; whnf) ?_
       refine GL.guardT rfl ?_
       refine GL.loadW I0.mono (n := 4) rfl rfl rfl rfl (by simp) rfl rfl rfl ?_
       refine GL.guardT rfl ?_
       refine GL.move I0.mono (by conv => lhs; whnf) ?_
       refine GL.guardT rfl ?_
       refine GL.move I0.mono (by conv => lhs; whnf) ?_
       refine GL.guardT rfl ?_
       refine GL.move I0.mono (by conv => lhs; whnf) ?_
       refine GL.guardT rfl ?_
       refine GL.sliceTo I0.mono (sz := 1) rfl rfl rfl rfl (by intro e he; obtain ⟨a, -, rfl⟩ := List.mem_map.1 he; rfl) (by omega) (by omega) (by rfl) ?_
       refine GL.guardT rfl ?_
       refine GL.appendSl I0.mono (f := ni) (l := s.take y.toNat) (sz := 1) (z := [.int .i64 0]) rfl rfl rfl rfl rfl (by decide) (Nat.le_of_ble_eq_true rfl) rfl rfl (fun _ => rfl) (fun _ => rfl) (k3) (by (rw [List.length_take]; omega)) ?_
       intro g103
       refine GL.guardT rfl ?_
       refine GL.move I0.mono (by conv => lhs; whnf) ?_
       refine GL.guardT rfl ?_
       refine GL.move I0.mono (by conv => lhs; whnf) ?_
       refine GL.guardT rfl ?_
       refine GL.sliceFrom I0.mono (sz := 1) rfl rfl rfl rfl (by intro e he; obtain ⟨a, -, rfl⟩ := List.mem_map.1 he; rfl) (by omega) (by omega) (by rfl) ?_
       refine GL.guardT rfl ?_
       refine GL.appendO I0.mono (f := ni) (l := s.take y.toNat) (l2 := r.drop x.toNat) (n2 := (r.drop x.toNat).length) (sz := 1) (z := [.int .i64 0]) rfl rfl rfl rfl rfl (by decide) (Nat.le_of_ble_eq_true rfl) rfl rfl rfl rfl rfl rfl rfl rfl rfl (fun _ => rfl) (fun _ => rfl) rfl (k4) (by rw [List.length_take, List.length_drop]; omega) ?_
       refine GL.guardT rfl ?_
       refine GL.move I0.mono (by conv => lhs; whnf) ?_
       refine GL.guardT rfl ?_
       refine GL.move I0.mono (by conv => lhs; whnf) ?_
       refine GL.guardT rfl ?_
       refine GL.callFlT rfl (Frz.aggc (Frz.aggc (by exact Frz.pure rfl) (Frz.aggc (by exact Frz.pure rfl) (Frz.aggc (by exact Frz.pure rfl) (Frz.aggc (by exact Frz.pure rfl) Frz.aggn)))) (Frz.aggc (Frz.pure rfl) (Frz.aggc (Frz.whole rfl rfl rfl rfl (by rw [em_len, List.length_append])) (Frz.aggc (Frz.pure rfl) (Frz.aggc (Frz.pure rfl) Frz.aggn))))) (right_ok (he2 (s.take y.toNat ++ r.drop x.toNat) rfl) q3 q4) (FlatI.sca rfl) rfl rfl ?_
       refine GL.guardT rfl ?_
       refine GL.un I0.mono rfl ?_
       refine GL.pick I0.mono rfl (by conv => lhs; whnf) ?_
       refine GL.doneT (by kernel_rfl) ?_
       refine ⟨_, (LessS.weak (LessS.upd (LessS.upd (LessS.upd (LessS.upd (LessS.nil _) rfl) rfl) rfl) rfl) _), _, _, trivial, _, (congrArg (St.mk _) (effM_eq (Has.cons rfl (Has.cons rfl Has.nil))).symm)⟩
    ·skip
     rcases (show s.take y.toNat = [] ∨ 0 < (s.take y.toNat).length by cases s.take y.toNat with | nil => exact .inl rfl | cons a r => exact .inr (by simp)) with k3 | k3
     ·skip
      rcases (show r.drop x.toNat = [] ∨ 0 < (r.drop x.toNat).length by cases r.drop x.toNat with | nil => exact .inl rfl | cons a r => exact .inr (by simp)) with k4 | k4
      ·skip
       refine Wp.regD ?_
       refine GL.loadW I0.mono (n := 4) rfl rfl rfl rfl (by simp) rfl rfl rfl ?_
       refine GL.move I0.mono (by conv => lhs; whnf) ?_
       refine GL.move I0.mono (by conv => lhs; whnf) ?_
       refine GL.move I0.mono (by conv => lhs; whnf) ?_
       refine GL.sliceTo I0.mono (sz := 1) rfl rfl rfl rfl (by intro e he; obtain ⟨a, -, rfl⟩ := List.mem_map.1 he; rfl) (by omega) (by omega) (by rfl) ?_
       refine GL.appendSl I0.mono (f := ni) (l := r.take x.toNat) (sz := 1) (z := [.int .i64 0]) rfl rfl rfl rfl rfl (by decide) (Nat.le_of_ble_eq_true rfl) rfl rfl (fun _ => rfl) (fun _ => rfl) (k1) (by (rw [List.length_take]; omega)) ?_
       intro g88
       refine GL.move I0.mono (by conv => lhs; whnf) ?_
       refine GL.move I0.mono (by conv => lhs; whnf) ?_
       refine GL.sliceFrom I0.mono (sz := 1) rfl rfl rfl rfl (by intro e he; obtain ⟨a, -, rfl⟩ := List.mem_map.1 he; rfl) (by omega) (by omega) (by rfl) ?_
       refine GL.appendO I0.mono (f := ni) (l := r.take x.toNat) (l2 := s.drop y.toNat) (n2 := (s.drop y.toNat).length) (sz := 1) (z := [.int .i64 0]) rfl rfl rfl rfl rfl (by decide) (Nat.le_of_ble_eq_true rfl) rfl rfl rfl rfl rfl rfl rfl rfl rfl (fun _ => rfl) (fun _ => rfl) rfl (k2) (by rw [List.length_take, List.length_drop]; omega) ?_
       refine GL.move I0.mono (by conv => lhs; whnf) ?_
       refine GL.move I0.mono (by conv => lhs; whnf) ?_
       refine GL.callFlT rfl (Frz.aggc (Frz.aggc (by exact Frz.pure rfl) (Frz.aggc (by exact Frz.pure rfl) (Frz.aggc (by exact Frz.pure rfl) (Frz.aggc (by exact Frz.pure rfl) Frz.aggn)))) (Frz.aggc (Frz.pure rfl) (Frz.aggc (Frz.whole rfl rfl rfl rfl (by rw [em_len, List.length_append])) (Frz.aggc (Frz.pure rfl) (Frz.aggc (Frz.pure rfl) Frz.aggn))))) (right_ok (he1 (r.take x.toNat ++ s.drop y.toNat) rfl) q1 q2) (FlatI.sca rfl) rfl rfl ?_
       refine GL.un I0.mono rfl ?_
       refine GL.move I0.mono (by conv => lhs; whnf) ?_
       refine GL.guardT rfl ?_
       refine GL.loadW I0.mono (n := 4) rfl rfl rfl rfl (by simp) rfl rfl rfl ?_
       refine GL.guardT rfl ?_
       refine GL.move I0.mono (by conv => lhs; whnf) ?_
       refine GL.guardT rfl ?_
       refine GL.move I0.mono (by conv => lhs; whnf) ?_
       refine GL.guardT rfl ?_
       refine GL.move I0.mono (by conv => lhs; whnf) ?_
       refine GL.guardT rfl ?_
       refine GL.sliceTo I0.mono (sz := 1) rfl rfl rfl rfl (by intro e he; obtain ⟨a, -, rfl⟩ := List.mem_map.1 he; rfl) (by omega) (by omega) (by rfl) ?_
       refine GL.guardT rfl ?_
       refine GL.appendNil I0.mono rfl rfl rfl rfl (show LV.sl (em ni (s.take y.toNat)) = .sl [] by rw [k3]; rfl) ?_
       refine GL.guardT rfl ?_
       refine GL.move I0.mono (by conv => lhs; whnf) ?_
       refine GL.guardT rfl ?_
       refine GL.move I0.mono (by conv => lhs; whnf) ?_
       refine GL.guardT rfl ?_
       refine GL.sliceFrom I0.mono (sz := 1) rfl rfl rfl rfl (by intro e he; obtain ⟨a, -, rfl⟩ := List.mem_map.1 he; rfl) (by omega) (by omega) (by rfl) ?_
       refine GL.guardT rfl ?_
       refine GL.appendNil I0.mono rfl rfl rfl rfl (show LV.sl (em ni (r.drop x.toNat)) = .sl [] by rw [k4]; rfl) ?_
       refine GL.guardT rfl ?_
       refine GL.move I0.mono (by conv => lhs; whnf) ?_
       refine GL.guardT rfl ?_
       refine GL.move I0.mono (by conv => lhs; whnf) ?_
       refine GL.guardT rfl ?_
       refine GL.callFlT rfl (Frz.aggc (Frz.aggc (by exact Frz.pure rfl) (Frz.aggc (by exact Frz.pure rfl) (Frz.aggc (by exact Frz.pure rfl) (Frz.aggc (by exact Frz.pure rfl) Frz.aggn)))) (Frz.aggc (Frz.pure rfl) (Frz.aggc Frz.nils (Frz.aggc (Frz.pure rfl) (Frz.aggc (Frz.pure rfl) Frz.aggn))))) (right_ok (he2 [] (by rw [k3, k4]; rfl)) q3 q4) (FlatI.sca rfl) rfl rfl ?_
       refine GL.guardT rfl ?_
       refine GL.un I0.mono rfl ?_
       refine GL.pick I0.mono rfl (by conv => lhs; whnf) ?_
       refine GL.doneT (by kernel_rfl) ?_
       refine ⟨_, (LessS.weak (LessS.upd (LessS.upd (LessS.upd (LessS.upd (LessS.nil _) rfl) rfl) rfl) rfl) _), _, _, trivial, _, (congrArg (St.mk _) (effM_eq (Has.cons rfl (Has.cons rfl Has.nil))).symm)⟩
      ·skip
       refine Wp.regD ?_
       refine GL.loadW I0.mono (n := 4) rfl rfl rfl rfl (by simp) rfl rfl rfl ?_
       refine GL.move I0.mono (by conv => lhs; whnf) ?_
       refine GL.move I0.mono (by conv => lhs; whnf) ?_
       refine GL.move I0.mono (by conv => lhs; whnf) ?_
       refine GL.sliceTo I0.mono (sz := 1) rfl rfl rfl rfl (by intro e he; obtain ⟨a, -, rfl⟩ := List.mem_map.1 he; rfl) (by omega) (by omega) (by rfl) ?_
       refine GL.appendSl I0.mono (f := ni) (l := r.take x.toNat) (sz := 1) (z := [.int .i64 0]) rfl rfl rfl rfl rfl (by decide) (Nat.le_of_ble_eq_true rfl) rfl rfl (fun _ => rfl) (fun _ => rfl) (k1) (by (rw [List.length_take]; omega)) ?_
       intro g88
       refine GL.move I0.mono (by conv => lhs; whnf) ?_
       refine GL.move I0.mono (by conv => lhs; whnf) ?_
       refine GL.sliceFrom I0.mono (sz := 1) rfl rfl rfl rfl (by intro e he; obtain ⟨a, -, rfl⟩ := List.mem_map.1 he; rfl) (by omega) (by omega) (by rfl) ?_
       refine GL.appendO I0.mono (f := ni) (l := r.take x.toNat) (l2 := s.drop y.toNat) (n2 := (s.drop y.toNat).length) (sz := 1) (z := [.int .i64 0]) rfl rfl rfl rfl rfl (by decide) (Nat.le_of_ble_eq_true rfl) rfl rfl rfl rfl rfl rfl rfl rfl rfl (fun _ => rfl) (fun _ => rfl) rfl (k2) (by rw [List.length_take, List.length_drop]; omega) ?_
       refine GL.move I0.mono (by conv => lhs; whnf) ?_
       refine GL.move I0.mono (by conv => lhs; whnf) ?_
       refine GL.callFlT rfl (Frz.aggc (Frz.aggc (by exact Frz.pure rfl) (Frz.aggc (by exact Frz.pure rfl) (Frz.aggc (by exact Frz.pure rfl) (Frz.aggc (by exact Frz.pure rfl) Frz.aggn)))) (Frz.aggc (Frz.pure rfl) (Frz.aggc (Frz.whole rfl rfl rfl rfl (by rw [em_len, List.length_append])) (Frz.aggc (Frz.pure rfl) (Frz.aggc (Frz.pure rfl) Frz.aggn))))) (right_ok (he1 (r.take x.toNat ++ s.drop y.toNat) rfl) q1 q2) (FlatI.sca rfl) rfl rfl ?_
       refine GL.un I0.mono rfl ?_
       refine GL.move I0.mono (by conv => lhs; whnf) ?_
       refine GL.guardT rfl ?_
       refine GL.loadW I0.mono (n := 4) rfl rfl rfl rfl (by simp) rfl rfl rfl ?_
       refine GL.guardT rfl ?_
       refine GL.move I0.mono (by conv => lhs; whnf) ?_
       refine GL.guardT rfl ?_
       refine GL.move I0.mono (by conv => lhs; whnf) ?_
       refine GL.guardT rfl ?_
       refine GL.move I0.mono (by conv => lhs; whnf) ?_
       refine GL.guardT rfl ?_
       refine GL.sliceTo I0.mono (sz := 1) rfl rfl rfl rfl (by intro e he; obtain ⟨a, -, rfl⟩ := List.mem_map.1 he; rfl) (by omega) (by omega) (by rfl) ?_
       refine GL.guardT rfl ?_
       refine GL.appendNil I0.mono rfl rfl rfl rfl (show LV.sl (em ni (s.take y.toNat)) = .sl [] by rw [k3]; rfl) ?_
       refine GL.guardT rfl ?_
       refine GL.move I0.mono (by conv => lhs; whnf) ?_
       refine GL.guardT rfl ?_
       refine GL.move I0.mono (by conv => lhs; whnf) ?_
       refine GL.guardT rfl ?_
       refine GL.sliceFrom I0.mono (sz := 1) rfl rfl rfl rfl (by intro e he; obtain ⟨a, -, rfl⟩ := List.mem_map.1 he; rfl) (by omega) (by omega) (by rfl) ?_
       refine GL.guardT rfl ?_
       refine GL.appendSl I0.mono (f := ni) (l := r.drop x.toNat) (sz := 1) (z := [.int .i64 0]) rfl rfl rfl rfl rfl (by decide) (Nat.le_of_ble_eq_true rfl) rfl rfl (fun _ => rfl) (fun _ => rfl) (k4) (by (rw [List.length_drop]; omega)) ?_
       intro g107
       refine GL.guardT rfl ?_
       refine GL.move I0.mono (by conv => lhs; whnf) ?_
       refine GL.guardT rfl ?_
       refine GL.move I0.mono (by conv => lhs; whnf) ?_
       refine GL.guardT rfl ?_
       refine GL.callFlT rfl (Frz.aggc (Frz.aggc (by exact Frz.pure rfl) (Frz.aggc (by exact Frz.pure rfl) (Frz.aggc (by exact Frz.pure rfl) (Frz.aggc (by exact Frz.pure rfl) Frz.aggn)))) (Frz.aggc (Frz.pure rfl) (Frz.aggc (Frz.whole rfl rfl rfl rfl (by rw [em_len])) (Frz.aggc (Frz.pure rfl) (Frz.aggc (Frz.pure rfl) Frz.aggn))))) (right_ok (he2 (r.drop x.toNat) (by rw [k3]; rfl)) q3 q4) (FlatI.sca rfl) rfl rfl ?_
       refine GL.guardT rfl ?_
       refine GL.un I0.mono rfl ?_
       refine GL.pick I0.mono rfl (by conv => lhs; whnf) ?_
       refine GL.doneT (by kernel_rfl) ?_
       refine ⟨_, (LessS.weak (LessS.upd (LessS.upd (LessS.upd (LessS.upd (LessS.nil _) rfl) rfl) rfl) rfl) _), _, _, trivial, _, (congrArg (St.mk _) (effM_eq (Has.cons rfl (Has.cons rfl Has.nil))).symm)⟩
     ·skip
      rcases (show r.drop x.toNat = [] ∨ 0 < (r.drop x.toNat).length by cases r.drop x.toNat with | nil => exact .inl rfl | cons a r => exact .inr (by simp)) with k4 | k4
      ·skip
       refine Wp.regD ?_
       refine GL.loadW I0.mono (n := 4) rfl rfl rfl rfl (by simp) rfl rfl rfl ?_
       refine GL.move I0.mono (by conv => lhs; whnf) ?_
       refine GL.move I0.mono (by conv => lhs; whnf) ?_
       refine GL.move I0.mono (by conv => lhs; whnf) ?_
       refine GL.sliceTo I0.mono (sz := 1) rfl rfl rfl rfl (by intro e he; obtain ⟨a, -, rfl⟩ := List.mem_map.1 he; rfl) (by omega) (by omega) (by rfl) ?_
       refine GL.appendSl I0.mono (f := ni) (l := r.take x.toNat) (sz := 1) (z := [.int .i64 0]) rfl rfl rfl rfl rfl (by decide) (Nat.le_of_ble_eq_true rfl) rfl rfl (fun _ => rfl) (fun _ => rfl) (k1) (by (rw [List.length_take]; omega)) ?_
       intro g88
       refine GL.move I0.mono (by conv => lhs; whnf) ?_
       refine GL.move I0.mono (by conv => lhs; whnf) ?_
       refine GL.sliceFrom I0.mono (sz := 1) rfl rfl rfl rfl (by intro e he; obtain ⟨a, -, rfl⟩ := List.mem_map.1 he; rfl) (by omega) (by omega) (by rfl) ?_
       refine GL.appendO I0.mono (f := ni) (l := r.take x.toNat) (l2 := s.drop y.toNat) (n2 := (s.drop y.toNat).length) (sz := 1) (z := [.int .i64 0]) rfl rfl rfl rfl rfl (by decide) (Nat.le_of_ble_eq_true rfl) rfl rfl rfl rfl rfl rfl rfl rfl rfl (fun _ => rfl) (fun _ => rfl) rfl (k2) (by rw [List.length_take, List.length_drop]; omega) ?_
       refine GL.move I0.mono (by conv => lhs; whnf) ?_
       refine GL.move I0.mono (by conv => lhs; whnf) ?_
       refine GL.callFlT rfl (Frz.aggc (Frz.aggc (by exact Frz.pure rfl) (Frz.aggc (by exact Frz.pure rfl) (Frz.aggc (by exact Frz.pure rfl) (Frz.aggc (by exact Frz.pure rfl) Frz.aggn)))) (Frz.aggc (Frz.pure rfl) (Frz.aggc (Frz.whole rfl rfl rfl rfl (by rw [em_len, List.length_append])) (Frz.aggc (Frz.pure rfl) (Frz.aggc (Frz.pure rfl) Frz.aggn))))) (right_ok (he1 (r.take x.toNat ++ s.drop y.toNat) rfl) q1 q2) (FlatI.sca rfl) rfl rfl ?_
       refine GL.un I0.mono rfl ?_
       refine GL.move I0.mono (by conv => lhs; whnf) ?_
       refine GL.guardT rfl ?_
       refine GL.loadW I0.mono (n := 4) rfl rfl rfl rfl (by simp) rfl rfl rfl ?_
       refine GL.guardT rfl ?_
       refine GL.move I0.mono (by conv => lhs; whnf) ?_
       refine GL.guardT rfl ?_
       refine GL.move I0.mono (by conv => lhs; whnf) ?_
       refine GL.guardT rfl ?_
       refine GL.move I0.mono (by conv => lhs; whnf) ?_
       refine GL.guardT rfl ?_
       refine GL.sliceTo I0.mono (sz := 1) rfl rfl rfl rfl (by intro e he; obtain ⟨a, -, rfl⟩ := List.mem_map.1 he; rfl) (by omega) (by omega) (by rfl) ?_
       refine GL.guardT rfl ?_
       refine GL.appendSl I0.mono (f := ni) (l := s.take y.toNat) (sz := 1) (z := [.int .i64 0]) rfl rfl rfl rfl rfl (by decide) (Nat.le_of_ble_eq_true rfl) rfl rfl (fun _ => rfl) (fun _ => rfl) (k3) (by (rw [List.length_take]; omega)) ?_
       intro g103
       refine GL.guardT rfl ?_
       refine GL.move I0.mono (by conv => lhs; whnf) ?_
       refine GL.guardT rfl ?_
       refine GL.move I0.mono (by conv => lhs; whnf) ?_
       refine GL.guardT rfl ?_
       refine GL.sliceFrom I0.mono (sz := 1) rfl rfl rfl rfl (by intro e he; obtain ⟨a, -, rfl⟩ := List.mem_map.1 he; rfl) (by omega) (by omega) (by rfl) ?_
       refine GL.guardT rfl ?_
       refine GL.appendE I0.mono rfl rfl rfl rfl rfl rfl (show LV.sl (em ni (r.drop x.toNat)) = .sl [] by rw [k4]; rfl) ?_
       refine GL.guardT rfl ?_
       refine GL.move I0.mono (by conv => lhs; whnf) ?_
       refine GL.guardT rfl ?_
       refine GL.move I0.mono (by conv => lhs; whnf) ?_
       refine GL.guardT rfl ?_
       refine GL.callFlT rfl (Frz.aggc (Frz.aggc (by exact Frz.pure rfl) (Frz.aggc (by exact Frz.pure rfl) (Frz.aggc (by exact Frz.pure rfl) (Frz.aggc (by exact Frz.pure rfl) Frz.aggn)))) (Frz.aggc (Frz.pure rfl) (Frz.aggc (Frz.whole rfl rfl rfl rfl (by rw [em_len])) (Frz.aggc (Frz.pure rfl) (Frz.aggc (Frz.pure rfl) Frz.aggn))))) (right_ok (he2 (s.take y.toNat) (by rw [k4, List.append_nil])) q3 q4) (FlatI.sca rfl) rfl rfl ?_
       refine GL.guardT rfl ?_
       refine GL.un I0.mono rfl ?_
       refine GL.pick I0.mono rfl (by conv => lhs; whnf) ?_
       refine GL.doneT (by kernel_rfl) ?_
       refine ⟨_, (LessS.weak (LessS.upd (LessS.upd (LessS.upd (LessS.upd (LessS.nil _) rfl) rfl) rfl) rfl) _), _, _, trivial, _, (congrArg (St.mk _) (effM_eq (Has.cons rfl (Has.cons rfl Has.nil))).symm)⟩
      ·skip
       refine Wp.regD ?_
       refine GL.loadW I0.mono (n := 4) rfl rfl rfl rfl (by simp) rfl rfl rfl ?_
       refine GL.move I0.mono (by conv => lhs; whnf) ?_
       refine GL.move I0.mono (by conv => lhs; whnf) ?_
       refine GL.move I0.mono (by conv => lhs; whnf) ?_
       refine GL.sliceTo I0.mono (sz := 1) rfl rfl rfl rfl (by intro e he; obtain ⟨a, -, rfl⟩ := List.mem_map.1 he; rfl) (by omega) (by omega) (by rfl) ?_
       refine GL.appendSl I0.mono (f := ni) (l := r.take x.toNat) (sz := 1) (z := [.int .i64 0]) rfl rfl rfl rfl rfl (by decide) (Nat.le_of_ble_eq_true rfl) rfl rfl (fun _ => rfl) (fun _ => rfl) (k1) (by (rw [List.length_take]; omega)) ?_
       intro g88
       refine GL.move I0.mono (by conv => lhs; whnf) ?_
       refine GL.move I0.mono (by conv => lhs; whnf) ?_
       refine GL.sliceFrom I0.mono (sz := 1) rfl rfl rfl rfl (by intro e he; obtain ⟨a, -, rfl⟩ := List.mem_map.1 he; rfl) (by omega) (by omega) (by rfl) ?_
       refine GL.appendO I0.mono (f := ni) (l := r.take x.toNat) (l2 := s.drop y.toNat) (n2 := (s.drop y.toNat).length) (sz := 1) (z := [.int .i64 0]) rfl rfl rfl rfl rfl (by decide) (Nat.le_of_ble_eq_true rfl) rfl rfl rfl rfl rfl rfl rfl rfl rfl (fun _ => rfl) (fun _ => rfl) rfl (k2) (by rw [List.length_take, List.length_drop]; omega) ?_
       refine GL.move I0.mono (by conv => lhs; whnf) ?_
       refine GL.move I0.mono (by conv => lhs; whnf) ?_
       refine GL.callFlT rfl (Frz.aggc (Frz.aggc (by exact Frz.pure rfl) (Frz.aggc (by exact Frz.pure rfl) (Frz.aggc (by exact Frz.pure rfl) (Frz.aggc (by exact Frz.pure rfl) Frz.aggn)))) (Frz.aggc (Frz.pure rfl) (Frz.aggc (Frz.whole rfl rfl rfl rfl (by rw [em_len, List.length_append])) (Frz.aggc (Frz.pure rfl) (Frz.aggc (Frz.pure rfl) Frz.aggn))))) (right_ok (he1 (r.take x.toNat ++ s.drop y.toNat) rfl) q1 q2) (FlatI.sca rfl) rfl rfl ?_
       refine GL.un I0.mono rfl ?_
       refine GL.move I0.mono (by conv => lhs; whnf) ?_
       refine GL.guardT rfl ?_
       refine GL.loadW I0.mono (n := 4) rfl rfl rfl rfl (by simp) rfl rfl rfl ?_
       refine GL.guardT rfl ?_
       refine GL.move I0.mono (by conv => lhs; whnf) ?_
       refine GL.guardT rfl ?_
       refine GL.move I0.mono (by conv => lhs; whnf) ?_
       refine GL.guardT rfl ?_
       refine GL.move I0.mono (by conv => lhs; whnf) ?_
       refine GL.guardT rfl ?_
       refine GL.sliceTo I0.mono (sz := 1) rfl rfl rfl rfl (by intro e he; obtain ⟨a, -, rfl⟩ := List.mem_map.1 he; rfl) (by omega) (by omega) (by rfl) ?_
       refine GL.guardT rfl ?_
       refine GL.appendSl I0.mono (f := ni) (l := s.take y.toNat) (sz := 1) (z := [.int .i64 0]) rfl rfl rfl rfl rfl (by decide) (Nat.le_of_ble_eq_true rfl) rfl rfl (fun _ => rfl) (fun _ => rfl) (k3) (by (rw [List.length_take]; omega)) ?_
       intro g103
       refine GL.guardT rfl ?_
       refine GL.move I0.mono (by conv => lhs; whnf) ?_
       refine GL.guardT rfl ?_
       refine GL.move I0.mono (by conv => lhs; whnf) ?_
       refine GL.guardT rfl ?_
       refine GL.sliceFrom I0.mono (sz := 1) rfl rfl rfl rfl (by intro e he; obtain ⟨a, -, rfl⟩ := List.mem_map.1 he; rfl) (by omega) (by omega) (by rfl) ?_
       refine GL.guardT rfl ?_
       refine GL.appendO I0.mono (f := ni) (l := s.take y.toNat) (l2 := r.drop x.toNat) (n2 := (r.drop x.toNat).length) (sz := 1) (z := [.int .i64 0]) rfl rfl rfl rfl rfl (by decide) (Nat.le_of_ble_eq_true rfl) rfl rfl rfl rfl rfl rfl rfl rfl rfl (fun _ => rfl) (fun _ => rfl) rfl (k4) (by rw [List.length_take, List.length_drop]; omega) ?_
       refine GL.guardT rfl ?_
       refine GL.move I0.mono (by conv => lhs; whnf) ?_
       refine GL.guardT rfl ?_
       refine GL.move I0.mono (by conv => lhs; whnf) ?_
       refine GL.guardT rfl ?_
       refine GL.callFlT rfl (Frz.aggc (Frz.aggc (by exact Frz.pure rfl) (Frz.aggc (by exact Frz.pure rfl) (Frz.aggc (by exact Frz.pure rfl) (Frz.aggc (by exact Frz.pure rfl) Frz.aggn)))) (Frz.aggc (Frz.pure rfl) (Frz.aggc (Frz.whole rfl rfl rfl rfl (by rw [em_len, List.length_append])) (Frz.aggc (Frz.pure rfl) (Frz.aggc (Frz.pure rfl) Frz.aggn))))) (right_ok (he2 (s.take y.toNat ++ r.drop x.toNat) rfl) q3 q4) (FlatI.sca rfl) rfl rfl ?_
       refine GL.guardT rfl ?_
       refine GL.un I0.mono rfl ?_
       refine GL.pick I0.mono rfl (by conv => lhs; whnf) ?_
       refine GL.doneT (by kernel_rfl) ?_
       refine ⟨_, (LessS.weak (LessS.upd (LessS.upd (LessS.upd (LessS.upd (LessS.nil _) rfl) rfl) rfl) rfl) _), _, _, trivial, _, (congrArg (St.mk _) (effM_eq (Has.cons rfl (Has.cons rfl Has.nil))).symm)⟩
  ·rintro _ ⟨gt, gu, -, m0, rfl⟩
   refine Wp.condF rfl ?_
   refine Wp.skipI ?_
   refine goOn ?_
   refine Wp.seqI ?_
   refine Wp.regI I0.mono ?_
   refine GL.move I0.mono (by conv => lhs; whnf) ?_
   refine GL.move I0.mono (by conv => lhs; whnf) ?_
   refine GL.move I0.mono (by conv => lhs; whnf) ?_
   refine GL.move I0.mono (by conv => lhs; whnf) ?_
   refine GL.callFl I0.mono rfl (Frz.aggc (Frz.ref rfl rfl rfl rfl (Frz.pures rfl)) (Frz.aggc (Frz.pure rfl) (Frz.aggc (Frz.ref rfl rfl rfl rfl (Frz.pures rfl)) (Frz.aggc (Frz.pure rfl) Frz.aggn)))) (hself) (flat_ib _ _) rfl rfl ?_
   refine GL.move I0.mono (by conv => lhs; whnf) ?_
   refine GL.extract I0.mono rfl rfl ?_
   refine GL.extract I0.mono rfl rfl ?_
   refine GL.assign I0.mono (by conv => lhs; whnf) ?_
   refine GL.assign I0.mono (by conv => lhs; whnf) ?_
   refine GL.doneF ?_
   refine goOn ?_
   refine Wp.seqI ?_
   refine Wp.regI I0.mono ?_
   refine GL.move I0.mono (by conv => lhs; whnf) ?_
   refine GL.callFl I0.mono rfl (Frz.aggc (Frz.ref rfl rfl rfl rfl (Frz.pures rfl)) Frz.aggn) (hw1) (flat_ib _ _) rfl rfl ?_
   refine GL.move I0.mono (by conv => lhs; whnf) ?_
   refine GL.extract I0.mono rfl rfl ?_
   refine GL.extract I0.mono rfl rfl ?_
   refine GL.assign I0.mono (by conv => lhs; whnf) ?_
   refine GL.assign I0.mono (by conv => lhs; whnf) ?_
   refine GL.doneF ?_
   refine goOn ?_
   refine Wp.seqI ?_
   refine Wp.regI I0.mono ?_
   refine GL.move I0.mono (by conv => lhs; whnf) ?_
   refine GL.move I0.mono (by conv => lhs; whnf) ?_
   refine GL.callFl I0.mono rfl (Frz.aggc (Frz.ref rfl rfl rfl rfl (Frz.pures rfl)) (Frz.aggc (Frz.pure rfl) (Frz.aggc (Frz.ref rfl rfl rfl rfl (Frz.pures rfl)) (Frz.aggc (Frz.pure rfl) Frz.aggn)))) (h00) (flat_ib _ _) rfl rfl ?_
   refine GL.move I0.mono (by conv => lhs; whnf) ?_
   refine GL.extract I0.mono rfl rfl ?_
   refine GL.extract I0.mono rfl rfl ?_
   refine GL.assign I0.mono (by conv => lhs; whnf) ?_
   refine GL.assign I0.mono (by conv => lhs; whnf) ?_
   refine GL.doneF ?_
   refine goOn ?_
   refine Wp.seqI ?_
   refine Wp.regI I0.mono ?_
   refine GL.move I0.mono (by conv => lhs; whnf) ?_
   refine GL.callFl I0.mono rfl (Frz.aggc (Frz.ref rfl rfl rfl rfl (Frz.pures rfl)) Frz.aggn) (hw2) (flat_ib _ _) rfl rfl ?_
   refine GL.move I0.mono (by conv => lhs; whnf) ?_
   refine GL.extract I0.mono rfl rfl ?_
   refine GL.extract I0.mono rfl rfl ?_
   refine GL.assign I0.mono (by conv => lhs; whnf) ?_
   refine GL.assign I0.mono (by conv => lhs; whnf) ?_
   refine GL.doneF ?_
   refine goOn ?_
   refine Wp.seqI ?_
   refine Wp.regI I0.mono ?_
   refine GL.move I0.mono (by conv => lhs; whnf) ?_
   refine GL.move I0.mono (by conv => lhs; whnf) ?_
   refine GL.bin I0.mono (v := .bool true) (by show some (LV.bool (_ == _)) = _; rw [beq_self_eq_true]) ?_
   refine GL.move I0.mono (by conv => lhs; whnf) ?_
   refine GL.guardT rfl ?_
   refine GL.move I0.mono (by conv => lhs; whnf) ?_
   refine GL.guardT rfl ?_
   refine GL.move I0.mono (by conv => lhs; whnf) ?_
   refine GL.guardT rfl ?_
   refine GL.bin I0.mono (v := .bool true) (by show some (LV.bool (_ == _)) = _; rw [beq_self_eq_true]) ?_
   refine GL.pick I0.mono rfl (by conv => lhs; whnf) ?_
   refine GL.move I0.mono (by conv => lhs; whnf) ?_
   refine GL.guardT rfl ?_
   refine GL.move I0.mono (by conv => lhs; whnf) ?_
   refine GL.guardT rfl ?_
   refine GL.move I0.mono (by conv => lhs; whnf) ?_
   refine GL.guardT rfl ?_
   refine GL.bin I0.mono (v := .bool true) (by show some (LV.bool (_ == _)) = _; rw [beq_self_eq_true]) ?_
   refine GL.pick I0.mono rfl (by conv => lhs; whnf) ?_
   refine GL.move I0.mono (by conv => lhs; whnf) ?_
   refine GL.guardT rfl ?_
   refine GL.move I0.mono (by conv => lhs; whnf) ?_
   refine GL.guardT rfl ?_
   refine GL.move I0.mono (by conv => lhs; whnf) ?_
   refine GL.guardT rfl ?_
   refine GL.bin I0.mono (v := .bool true) (by show some (LV.bool (_ == _)) = _; rw [beq_self_eq_true]) ?_
   refine GL.pick I0.mono rfl (by conv => lhs; whnf) ?_
   refine GL.move I0.mono (by conv => lhs; whnf) ?_
   refine GL.guardT rfl ?_
   refine GL.call0 I0.mono rfl (Frz.aggn) (wakes6_ok) rfl rfl (fun _ => rfl) ?_
   refine GL.pick I0.mono rfl (by conv => lhs; whnf) ?_
   refine GL.assign I0.mono (by conv => lhs; whnf) ?_
   refine GL.doneF ?_
   refine goOn ?_
   refine Wp.retI ?_
   refine RetX.ret ?_
   refine ⟨_, _, _, _, .cons (.tmp rfl) .nil, .frz (.pure rfl), List.nodup_nil, by simp, ?_⟩
   rfl


theorem answer {I : Inst} {N : Nat} (hb : Sb I N) (hp : Sp I) {c : Int} {L : List Int} (hL : L.length ≤ 1000) {o : Option Int} (ho : o = (eval I c L).map (·.t2)) : ∃ T : Trip, (∀ l, l = L → CallsV Try.prog 32 [ei I, .int .i64 c, .sl (em ni l)] (.tup [.agg (nt T), .bool o.isSome])) ∧ (o.isSome = true → o.getD 0 = T.t2) ∧ (o.isSome = false → o.getD 0 = 0) := by
  have he := reval_ok I N hb hp c L hL
  subst ho
  cases h : eval I c L with
  | none => rw [h] at he; exact ⟨zeroT, fun l hl => by rw [hl]; exact he, fun h => (by cases h), fun _ => rfl⟩
  | some T => rw [h] at he; exact ⟨T, fun l hl => by rw [hl]; exact he, fun _ => rfl, fun h => (by cases h)⟩
theorem law_FitsCross (z0 : List Int) (h0 : Ints z0) (z1 : List Int) (h1 : Ints z1) (z2 : List Int) (h2 : Ints z2) (n kk mm : Int) : CallsV Try.prog 15 [.sl (em ni z0), .sl (em ni z1), .sl (em ni z2), .int .i64 n, .int .i64 kk, .int .i64 mm] (.bool true) := by
  have hb := inst_sb z0
  have hp := inst_sp z0
  have hsd := inst_sd z0
  have ht := tb_inst hb hsd
  have hci := within_in (a := n) (n := (instOf z0).cars.length) (by have := hb.sq.cars0; omega)
  have hr := row_short (instOf z0) z1
  have hs := row_short (instOf z0) z2
  have hx := within_in (a := kk) (n := ((rowOf (instOf z0) z1).length : Int) + 1) (by omega)
  have hy := within_in (a := mm) (n := ((rowOf (instOf z0) z2).length : Int) + 1) (by omega)
  have hr0 := row_ok (instOf z0) hb.sq.short z1 h1
  have hs0 := row_ok (instOf z0) hb.sq.short z2 h2
  generalize rowOf (instOf z0) z1 = r at *
  generalize rowOf (instOf z0) z2 = s at *
  generalize hX : within kk ((r.length : Int) + 1) = x at *
  generalize hY : within mm ((s.length : Int) + 1) = y at *
  have x1 : x ≤ r.length := by omega
  have y1 : y ≤ s.length := by omega
  have e1 := t_cross hb hp hsd hci.1 hci.2 (l := r) (l2 := s) (by omega) (by omega) hx.1 x1 hy.1 y1
  have e2 := t_cross hb hp hsd hci.1 hci.2 (l := s) (l2 := r) (by omega) (by omega) hy.1 y1 hx.1 x1
  have e3 := t_self hb hp hsd hci.1 hci.2 (l := r) (by omega) hx.1 x1
  have e4 := t_whole hb hp hsd hci.1 hci.2 (l := r) (by omega)
  have e5 := t_cross hb hp hsd hci.1 hci.2 (l := r) (l2 := s) (by omega) (by omega) (k := 0) (m := 0) (by omega) (by omega) (by omega) (by omega)
  have e6 := t_whole hb hp hsd hci.1 hci.2 (l := s) (by omega)
  obtain ⟨T1, f1, f2, f3⟩ := answer hb hp (by rw [List.length_append, List.length_take, List.length_drop]; omega) e1
  obtain ⟨T2, g1, g2, g3⟩ := answer hb hp (by rw [List.length_append, List.length_take, List.length_drop]; omega) e2
  have c3 := tcross_ok (instOf z0) (within n (instOf z0).cars.length) r.length (heads (instOf z0) (within n (instOf z0).cars.length) r) (tails (instOf z0) (within n (instOf z0).cars.length) r) hb.sq.short (instOf z0) (within n (instOf z0).cars.length) r.length (heads (instOf z0) (within n (instOf z0).cars.length) r) (tails (instOf z0) (within n (instOf z0).cars.length) r) x x
  have c4 := twhole_ok (instOf z0) (within n (instOf z0).cars.length) r.length (heads (instOf z0) (within n (instOf z0).cars.length) r) (tails (instOf z0) (within n (instOf z0).cars.length) r) hb.sq.short
  have c5 := tcross_ok (instOf z0) (within n (instOf z0).cars.length) r.length (heads (instOf z0) (within n (instOf z0).cars.length) r) (tails (instOf z0) (within n (instOf z0).cars.length) r) hb.sq.short (instOf z0) (within n (instOf z0).cars.length) s.length (heads (instOf z0) (within n (instOf z0).cars.length) s) (tails (instOf z0) (within n (instOf z0).cars.length) s) 0 0
  have c6 := twhole_ok (instOf z0) (within n (instOf z0).cars.length) s.length (heads (instOf z0) (within n (instOf z0).cars.length) s) (tails (instOf z0) (within n (instOf z0).cars.length) s) hb.sq.short
  rw [e3] at c3
  rw [e4] at c4
  rw [e5, show List.take (Int.toNat 0) r ++ List.drop (Int.toNat 0) s = s from rfl] at c5
  rw [e6] at c6
  exact fc_walk z0 z1 z2 n kk mm (instOf z0) hb.sq.short hb.sq.cars1 (inst_ok z0 h0) r s hr0 hs0 hr hs _ rfl _ _ _ _ (tnew_ok _ ht _ _ (by unfold Short; omega)) (tnew_ok _ ht _ _ (by unfold Short; omega)) x y hX hY hx.1 x1 hy.1 y1 _ _ _ _ T1 T2 (tcross_ok _ _ _ _ _ hb.sq.short _ _ _ _ _ _ _) f1 f2 f3 (tcross_ok _ _ _ _ _ hb.sq.short _ _ _ _ _ _ _) g1 g2 g3 _ _ _ _ c3 c4 c5 c6

end Go.Proofs.Ytpepcfombibpeaa
