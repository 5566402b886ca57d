/- The law DeltaMoves, walked. -/
import Derived.Test.YtffnlhjdlhpmjaaProg
import Derived.Test.YtffnlhjdlhpmjaaKh
import Derived.Test.YtffnlhjdlhpmjaaMvD
import Derived.KernelRfl
set_option linter.all false
namespace Go.Proofs.Ytffnlhjdlhpmjaa
open Go.Proofs Mv
def fewL (l : List Int) (a : Int) : List Int := ((l.take 6).map fun x => a + within x 20).foldl addK []
theorem addK_new {l : List Int} {n : Int} (h : n ∉ l) : addK l n = l ++ [n] := if_neg h
theorem addK_old {l : List Int} {n : Int} (h : n ∈ l) : addK l n = l := if_pos h
theorem fewL_len (l : List Int) (a : Int) : (fewL l a).length ≤ 6 := by
  have h1 : ∀ (l b : List Int), (l.foldl addK b).length ≤ b.length + l.length := by
    intro l
    induction l with
    | nil => intro b; simp
    | cons x r ih =>
      intro b
      have := ih (addK b x)
      have := addK_len b x
      simp only [List.foldl_cons, List.length_cons]
      omega
  have := h1 ((l.take 6).map fun x => a + within x 20) []
  rw [List.length_map, List.length_take, List.length_nil] at this
  unfold fewL
  omega
theorem fold_nodup : ∀ {l b : List Int}, b.Nodup → (l.foldl addK b).Nodup
  | [], b, h => h
  | x :: r, b, h => fold_nodup (l := r) (addK_nodup h x)
theorem fold_mem : ∀ {l b : List Int} {y : Int}, y ∈ l.foldl addK b → y ∈ b ∨ y ∈ l
  | [], b, y, h => .inl h
  | x :: r, b, y, h => by
    rcases fold_mem (l := r) h with h | h
    · rcases mem_addK.1 h with h | h
      · exact .inl h
      · exact .inr (by simp [h])
    · exact .inr (by simp [h])
theorem fewL_nodup (l : List Int) (a : Int) : (fewL l a).Nodup := fold_nodup List.nodup_nil
theorem fewL_in (l : List Int) (a : Int) : ∀ y ∈ fewL l a, a ≤ y ∧ y < a + 20 := fun y hy => by
  rcases fold_mem hy with h | h
  · cases h
  · obtain ⟨x, -, rfl⟩ := List.mem_map.1 h
    have := within_in (a := x) (n := 20) (by decide)
    omega

set_option maxRecDepth 100000 in
set_option maxHeartbeats 4000000 in
theorem few_ok (l : List Int) (hl : l.length < 9223372036854775808) (a : Int) (ha : 0 ≤ a ∧ a ≤ 1000) : CallsV Try.prog 26 [.sl (em ni l), .int .i64 a] (.slo 1 (em ni (fewL l a))) := by
  refine CallsR.intro (I0.sound _) mix Try.func26 rfl rfl (by simp [Try.f26]) (by kernel_rfl) (nb := 0) ?_
  unfold Try.f26
  refine Wp.seqI ?_
  refine Wp.regI I0.mono ?_
  refine GL.assign I0.mono (by conv => lhs; whnf) ?_
  refine GL.doneF ?_
  refine goOn ?_
  refine Wp.seqI ?_
  refine Wp.regI I0.mono ?_
  refine GL.assign I0.mono (by conv => lhs; whnf) ?_
  refine GL.doneF ?_
  refine goWeak (Weak.nilSlot (j := 5) 700001 1 rfl) ?_
  refine Wp.seqI ?_
  refine Wp.regI I0.mono ?_
  refine GL.makeMap I0.mono ?_
  intro g9
  refine GL.assign I0.mono (by conv => lhs; whnf) ?_
  refine GL.doneF ?_
  refine goOn ?_
  refine Wp.seqI ?_
  refine Wp.seqI ?_
  refine Wp.regI I0.mono ?_
  refine GL.assign I0.mono (by conv => lhs; whnf) ?_
  refine GL.doneF ?_
  refine goOn ?_
  refine Wp.blockI ?_
  refine Wp.loopI I0.mono (α := Nat × Nat × List Int) (fun ⟨k, g, D⟩ st => (k ≤ l.length ∧ k ≤ 6 ∧ D = ((l.take k).map fun x => a + within x 20).foldl addK [] ∧ D.length ≤ k) ∧ ∃ m0, st = ⟨(updS (updS (updS (updS (updS (fun _ => LV.undef) 0 (.sl (em ni l))) 1 (.int .i64 a)) 5 (.own 700001 g 0 D.length none)) 6 (.mref 576 g9)) 7 (.int .i64 (k : Int))), effM m0 [(576, ⟨g9, false, .mp, 2, em kb D⟩), (700001, ⟨g, false, .slc, 1, em ni D⟩)]⟩) (fun ⟨k, g, D⟩ => l.length - k) ⟨0, _, []⟩ ⟨_, (LessS.weak (LessS.upd (LessS.upd (LessS.upd (LessS.upd (LessS.upd (LessS.nil _) rfl) rfl) rfl) rfl) rfl) _), ⟨Nat.zero_le _, Nat.zero_le _, rfl, Nat.le_refl _⟩, _, (congrArg (St.mk _) (effM_eq (Has.cons rfl (Has.cons rfl Has.nil))).symm)⟩ ?_
  rintro ⟨k, g, D⟩ _ ⟨⟨hk, hk6, hD, hDl⟩, m0, rfl⟩
  refine Wp.seqI ?_
  refine Wp.seqI ?_
  refine Wp.regI I0.mono ?_
  refine GL.move I0.mono (by conv => lhs; whnf) ?_
  refine GL.move I0.mono (by conv => lhs; whnf) ?_
  first | refine GL.lenF I0.mono rfl rfl (em_len _ _) ?_ | refine GL.lenO I0.mono rfl rfl rfl rfl ?_ | refine GL.lenN I0.mono rfl rfl ?_
  refine GL.bin I0.mono rfl ?_
  refine GL.move I0.mono (by conv => lhs; whnf) ?_
  refine GL.splitAt 14 rfl (fun h14 => ?_) (fun h14 => ?_)
  ·first | rw [h14] | skip
   first | replace h14 := of_decide_eq_true h14 | replace h14 := bne_true h14 | skip
   refine GL.guardT rfl ?_
   refine GL.move I0.mono (by conv => lhs; whnf) ?_
   refine GL.guardT rfl ?_
   refine GL.bin I0.mono rfl ?_
   refine GL.pick I0.mono rfl (by conv => lhs; whnf) ?_
   refine GL.doneF ?_
   refine goOn ?_
   refine Wp.condI rfl (fun h17 => ?_) (fun h17 => ?_)
   ·first | replace h17 := of_decide_eq_true h17 | replace h17 := bne_true h17 | skip
    refine Wp.skipI ?_
    refine goOn ?_
    refine Wp.seqI ?_
    refine Wp.blockI ?_
    refine Wp.seqI ?_
    refine Wp.regI I0.mono ?_
    refine GL.move I0.mono (by conv => lhs; whnf) ?_
    refine GL.move I0.mono (by conv => lhs; whnf) ?_
    refine GL.move I0.mono (by conv => lhs; whnf) ?_
    first | refine GL.indexAddrF I0.mono (sz := 1) rfl rfl rfl rfl (by omega) (by first | omega | (rw [em_len]; omega)) (by intro e he; obtain ⟨a, -, rfl⟩ := List.mem_map.1 he; rfl) (by first | with_reducible exact Int.toNat_natCast _ | rfl) ?_ | refine GL.indexAddr I0.mono (sz := 1) rfl rfl rfl rfl rfl rfl rfl rfl (by omega) (by first | omega | (rw [em_len]; omega)) (by first | (conv => lhs; simp only [Nat.zero_add, Int.toNat_natCast]) | rfl) ?_
    first | refine GL.load I0.mono rfl rfl rfl rfl (by simp) rfl rfl ?_ | refine GL.loadF I0.mono rfl rfl (em_get (by omega)) rfl ?_
    refine GL.call0 I0.mono rfl (Frz.aggc (by first | exact Frz.pure rfl | exact Frz.pures rfl | exact Frz.nils | exact Frz.fn Frz.aggn | exact Frz.whole rfl rfl rfl rfl (by first | exact em_len _ _ | (rw [em_len]; omega)) | exact (Frz.aggc (by first | exact Frz.pure rfl | exact Frz.nils | exact Frz.whole rfl rfl rfl rfl (by first | exact em_len _ _ | (rw [em_len]; omega))) (Frz.aggc (by first | exact Frz.pure rfl | exact Frz.nils | exact Frz.whole rfl rfl rfl rfl (by first | exact em_len _ _ | (rw [em_len]; omega))) (Frz.aggc (by first | exact Frz.pure rfl | exact Frz.nils | exact Frz.whole rfl rfl rfl rfl (by first | exact em_len _ _ | (rw [em_len]; omega))) Frz.aggn)))) (Frz.aggc (by first | exact Frz.pure rfl | exact Frz.pures rfl | exact Frz.nils | exact Frz.fn Frz.aggn | exact Frz.whole rfl rfl rfl rfl (by first | exact em_len _ _ | (rw [em_len]; omega)) | exact (Frz.aggc (by first | exact Frz.pure rfl | exact Frz.nils | exact Frz.whole rfl rfl rfl rfl (by first | exact em_len _ _ | (rw [em_len]; omega))) (Frz.aggc (by first | exact Frz.pure rfl | exact Frz.nils | exact Frz.whole rfl rfl rfl rfl (by first | exact em_len _ _ | (rw [em_len]; omega))) (Frz.aggc (by first | exact Frz.pure rfl | exact Frz.nils | exact Frz.whole rfl rfl rfl rfl (by first | exact em_len _ _ | (rw [em_len]; omega))) Frz.aggn)))) (Frz.aggn))) (within_ok _ _ (by decide)) rfl rfl (fun _ => rfl) ?_
    have hw := within_in (a := l.getD k default) (n := 20) (by decide)
    refine GL.addR I0.mono rfl rfl (by omega) ?_
    refine GL.assign I0.mono (by conv => lhs; whnf) ?_
    refine GL.doneF ?_
    refine goOn ?_
    refine Wp.seqI ?_
    refine Wp.regI I0.mono ?_
    refine GL.move I0.mono (by conv => lhs; whnf) ?_
    refine GL.move I0.mono (by conv => lhs; whnf) ?_
    refine GL.setLook I0.mono rfl rfl rfl rfl rfl rfl rfl rfl rfl rfl ?_
    refine GL.un I0.mono rfl ?_
    refine GL.doneF ?_
    refine goOn ?_
    refine Wp.condI rfl (fun h30 => ?_) (fun h30 => ?_)
    ·first | replace h30 := of_decide_eq_true h30 | replace h30 := bne_true h30 | skip
     have hin : (a + within (l.getD k default) 20) ∉ D := by simpa using h30
     refine Wp.regI I0.mono ?_
     refine GL.move I0.mono (by conv => lhs; whnf) ?_
     refine GL.move I0.mono (by conv => lhs; whnf) ?_
     refine GL.move I0.mono (by conv => lhs; whnf) ?_
     refine GL.move I0.mono (by conv => lhs; whnf) ?_
     refine GL.buildSlice0 I0.mono (sz := 1) (z := [LV.int .i64 0]) rfl rfl rfl rfl (by decide) (by decide) (by decide) (FrzP.cons (S := []) (T := []) (Frz.aggc (S := []) (T := []) (Frz.pure rfl) Frz.aggn) rfl (by decide) rfl (FrzP.nil)) (by conv => lhs; simp only [fillE, List.replicate, List.map, pureC, List.set_cons_zero, List.set_cons_succ]) ?_
     intro g35
     refine GL.append1 I0.mono (f := ni) (v := (a + within (l.getD k default) 20)) (sz := 1) (z := [.int .i64 0]) rfl rfl rfl rfl rfl (by decide) (Nat.le_of_ble_eq_true rfl) rfl rfl rfl rfl rfl rfl rfl rfl rfl rfl rfl rfl rfl rfl rfl rfl (by omega) ?_
     refine GL.assign I0.mono (by conv => lhs; whnf) ?_
     refine GL.setPut I0.mono rfl rfl rfl rfl rfl rfl rfl rfl rfl rfl rfl ?_
     rw [addK_new hin]
     refine GL.doneF ?_
     refine blockX.normal ?_
     refine goOn ?_
     refine Wp.regI I0.mono ?_
     refine GL.move I0.mono (by conv => lhs; whnf) ?_
     first | refine GL.addR I0.mono rfl rfl (by first | omega | assumption) ?_ | refine GL.bin I0.mono rfl ?_
     refine GL.assign I0.mono (by conv => lhs; whnf) ?_
     refine GL.doneF ?_
     first
     | refine ⟨⟨k + 1, _, D⟩, (by dsimp only; omega), _, (LessS.weak (LessS.upd (LessS.upd (LessS.upd (LessS.upd (LessS.upd (LessS.nil _) rfl) rfl) rfl) rfl) rfl) _), ⟨by omega, by omega, by rw [take_snocG (by omega), List.map_append, List.foldl_append, ← hD]; exact (addK_old hin).symm, by omega⟩, _, (congrArg (St.mk _) (effM_eq (Has.cons rfl (Has.cons rfl Has.nil))).symm)⟩
     | refine ⟨⟨k + 1, _, D ++ [(a + within (l.getD k default) 20)]⟩, (by dsimp only; omega), _, (LessS.weak (LessS.upd (LessS.upd (LessS.upd (LessS.upd (LessS.upd (LessS.nil _) rfl) rfl) (by rw [List.length_append]; rfl)) rfl) rfl) _), ⟨by omega, by omega, by rw [take_snocG (by omega), List.map_append, List.foldl_append, ← hD]; exact (addK_new hin).symm, by rw [List.length_append]; show _ + 1 ≤ _; omega⟩, _, (congrArg (St.mk _) (effM_eq (Has.cons rfl (Has.cons rfl Has.nil))).symm)⟩
    ·first | replace h30 := of_decide_eq_false h30 | replace h30 := bne_false h30 | skip
     have hin : (a + within (l.getD k default) 20) ∈ D := by simpa using h30
     refine Wp.skipI ?_
     refine blockX.normal ?_
     refine goOn ?_
     refine Wp.regI I0.mono ?_
     refine GL.move I0.mono (by conv => lhs; whnf) ?_
     first | refine GL.addR I0.mono rfl rfl (by first | omega | assumption) ?_ | refine GL.bin I0.mono rfl ?_
     refine GL.assign I0.mono (by conv => lhs; whnf) ?_
     refine GL.doneF ?_
     first
     | refine ⟨⟨k + 1, _, D⟩, (by dsimp only; omega), _, (LessS.weak (LessS.upd (LessS.upd (LessS.upd (LessS.upd (LessS.upd (LessS.nil _) rfl) rfl) rfl) rfl) rfl) _), ⟨by omega, by omega, by rw [take_snocG (by omega), List.map_append, List.foldl_append, ← hD]; exact (addK_old hin).symm, by omega⟩, _, (congrArg (St.mk _) (effM_eq (Has.cons rfl (Has.cons rfl Has.nil))).symm)⟩
     | refine ⟨⟨k + 1, _, D ++ [(a + within (l.getD k default) 20)]⟩, (by dsimp only; omega), _, (LessS.weak (LessS.upd (LessS.upd (LessS.upd (LessS.upd (LessS.upd (LessS.nil _) rfl) rfl) (by rw [List.length_append]; rfl)) rfl) rfl) _), ⟨by omega, by omega, by rw [take_snocG (by omega), List.map_append, List.foldl_append, ← hD]; exact (addK_new hin).symm, by rw [List.length_append]; show _ + 1 ≤ _; omega⟩, _, (congrArg (St.mk _) (effM_eq (Has.cons rfl (Has.cons rfl Has.nil))).symm)⟩
   ·first | replace h17 := of_decide_eq_false h17 | replace h17 := bne_false h17 | skip
    refine Wp.exitI ?_
    refine thenX.exit ?_
    refine thenX.exit ?_
    refine blockX.out ?_
    refine goOn ?_
    refine Wp.seqI ?_
    refine Wp.regI I0.mono ?_
    refine GL.move I0.mono (by conv => lhs; whnf) ?_
    refine GL.assign I0.mono (by conv => lhs; whnf) ?_
    refine GL.doneF ?_
    refine goOn ?_
    refine Wp.retI ?_
    refine RetX.ret ?_
    refine ⟨_, _, _, _, .cons (.tmp rfl) .nil, .slo rfl rfl rfl rfl (by rw [em_len, Nat.zero_add]), by simp, by simp, ?_⟩
    show LV.slo 1 (em ni D) = _
    rw [hD, fewL]
    first | (rw [show l.take k = l.take 6 from by rw [List.take_of_length_le (by omega), List.take_of_length_le (by omega)]]; done) | (rw [show k = 6 by omega])
  ·first | rw [h14] | skip
   first | replace h14 := of_decide_eq_false h14 | replace h14 := bne_false h14 | skip
   refine GL.guardF rfl ?_
   refine GL.guardF rfl ?_
   refine GL.pick I0.mono rfl (by conv => lhs; whnf) ?_
   refine GL.doneF ?_
   refine goOn ?_
   refine Wp.condF rfl ?_
   refine Wp.exitI ?_
   refine thenX.exit ?_
   refine thenX.exit ?_
   refine blockX.out ?_
   refine goOn ?_
   refine Wp.seqI ?_
   refine Wp.regI I0.mono ?_
   refine GL.move I0.mono (by conv => lhs; whnf) ?_
   refine GL.assign I0.mono (by conv => lhs; whnf) ?_
   refine GL.doneF ?_
   refine goOn ?_
   refine Wp.retI ?_
   refine RetX.ret ?_
   refine ⟨_, _, _, _, .cons (.tmp rfl) .nil, .slo rfl rfl rfl rfl (by rw [em_len, Nat.zero_add]), by simp, by simp, ?_⟩
   show LV.slo 1 (em ni D) = _
   rw [hD, fewL]
   first | (rw [show l.take k = l.take 6 from by rw [List.take_of_length_le (by omega), List.take_of_length_le (by omega)]]; done) | (rw [show k = 6 by omega])

theorem few_f (l : List Int) (hl : l.length < 9223372036854775808) (a : Int) (ha : 0 ≤ a ∧ a ≤ 1000) : CallsV Try.prog 26 [.sl (em ni l), .int .i64 a] (.sl (em ni (fewL l a))) := (few_ok l hl a ha).freeze rfl

theorem sw_ze {w : List Int} {j : Nat} (h : j = 0) (hd : w.length ≤ j + 2) : swapAt w j = [w.getD (j + 1) default, w.getD j default] := by
  subst h
  rw [swapAt, List.drop_of_length_le hd, List.append_nil]
  rfl
theorem sw_zn {w : List Int} {j : Nat} (h : j = 0) : swapAt w j = [w.getD (j + 1) default, w.getD j default] ++ w.drop (j + 2) := by
  subst h
  rfl
theorem sw_pe {w : List Int} {j : Nat} (hd : w.length ≤ j + 2) : swapAt w j = w.take j ++ [w.getD (j + 1) default, w.getD j default] := by
  rw [swapAt, List.drop_of_length_le hd, List.append_nil]
theorem sS_ok (l : List Int) (hl : Short l) : CallsV Try.prog 24 [.sl (em ni l), .sl (em ni l)] (.bool true) := by
  have := same_ok l l hl hl
  rwa [decide_eq_true rfl] at this
def dM (X Y Z : List Int) : Delta := ⟨[⟨0, X ++ Y, Z⟩, ⟨1, Z, X⟩], [], []⟩
theorem m0_ok : CallsV Try.prog 27 [.agg (kd d0)] (.sl (em ni [])) := by
  have h : movedL d0 = [] := by
    unfold movedL
    have : sorted [] = [] := by simp [sorted]
    exact this
  exact h ▸ moved_f d0 (okD_of rfl)

set_option maxRecDepth 100000 in
set_option maxHeartbeats 4000000 in
theorem dm_walk (z0 z1 z2 X Y Z : List Int) (hX : CallsV Try.prog 26 [.sl (em ni z0), .int .i64 0] (.sl (em ni X))) (hY : CallsV Try.prog 26 [.sl (em ni z1), .int .i64 20] (.sl (em ni Y))) (hZ : CallsV Try.prog 26 [.sl (em ni z2), .int .i64 40] (.sl (em ni Z))) (lX : X.length ≤ 6) (lY : Y.length ≤ 6) (lZ : Z.length ≤ 6) (hM1 : CallsV Try.prog 27 [.agg (kd (dM X Y Z))] (.sl (em ni (sorted Y)))) (hI : CallsV Try.prog 22 [.agg (kd (dM X Y Z))] (.agg (kd (invD (dM X Y Z))))) (hM2 : CallsV Try.prog 27 [.agg (kd (invD (dM X Y Z)))] (.sl (em ni (sorted Y)))) : CallsV Try.prog 5 [.sl (em ni z0), .sl (em ni z1), .sl (em ni z2)] (.bool true) := by
  refine CallsR.intro (I0.sound _) mix Try.func5 rfl rfl (by simp [Try.f5]) (by kernel_rfl) (nb := 0) ?_
  unfold Try.f5
  refine Wp.seqI ?_
  refine Wp.regI I0.mono ?_
  refine GL.assign I0.mono (by conv => lhs; whnf) ?_
  refine GL.doneF ?_
  refine goOn ?_
  refine Wp.seqI ?_
  refine Wp.regI I0.mono ?_
  refine GL.move I0.mono (by conv => lhs; whnf) ?_
  refine GL.call0 I0.mono rfl (Frz.aggc (by first | exact Frz.pure rfl | exact Frz.pures rfl | exact Frz.nils | exact Frz.fn Frz.aggn | exact Frz.whole rfl rfl rfl rfl (by first | exact em_len _ _ | (rw [em_len]; omega) | (rw [em_len, List.length_append])) | exact (Frz.aggc (by first | exact Frz.pure rfl | exact Frz.nils | exact Frz.whole rfl rfl rfl rfl (by first | exact em_len _ _ | (rw [em_len]; omega) | (rw [em_len, List.length_append]))) (Frz.aggc (by first | exact Frz.pure rfl | exact Frz.nils | exact Frz.whole rfl rfl rfl rfl (by first | exact em_len _ _ | (rw [em_len]; omega) | (rw [em_len, List.length_append]))) (Frz.aggc (by first | exact Frz.pure rfl | exact Frz.nils | exact Frz.whole rfl rfl rfl rfl (by first | exact em_len _ _ | (rw [em_len]; omega) | (rw [em_len, List.length_append]))) Frz.aggn)))) (Frz.aggc (by first | exact Frz.pure rfl | exact Frz.pures rfl | exact Frz.nils | exact Frz.fn Frz.aggn | exact Frz.whole rfl rfl rfl rfl (by first | exact em_len _ _ | (rw [em_len]; omega) | (rw [em_len, List.length_append])) | exact (Frz.aggc (by first | exact Frz.pure rfl | exact Frz.nils | exact Frz.whole rfl rfl rfl rfl (by first | exact em_len _ _ | (rw [em_len]; omega) | (rw [em_len, List.length_append]))) (Frz.aggc (by first | exact Frz.pure rfl | exact Frz.nils | exact Frz.whole rfl rfl rfl rfl (by first | exact em_len _ _ | (rw [em_len]; omega) | (rw [em_len, List.length_append]))) (Frz.aggc (by first | exact Frz.pure rfl | exact Frz.nils | exact Frz.whole rfl rfl rfl rfl (by first | exact em_len _ _ | (rw [em_len]; omega) | (rw [em_len, List.length_append]))) Frz.aggn)))) (Frz.aggn))) (hX) rfl rfl (fun _ => rfl) ?_
  refine GL.move I0.mono (by conv => lhs; whnf) ?_
  refine GL.call0 I0.mono rfl (Frz.aggc (by first | exact Frz.pure rfl | exact Frz.pures rfl | exact Frz.nils | exact Frz.fn Frz.aggn | exact Frz.whole rfl rfl rfl rfl (by first | exact em_len _ _ | (rw [em_len]; omega) | (rw [em_len, List.length_append])) | exact (Frz.aggc (by first | exact Frz.pure rfl | exact Frz.nils | exact Frz.whole rfl rfl rfl rfl (by first | exact em_len _ _ | (rw [em_len]; omega) | (rw [em_len, List.length_append]))) (Frz.aggc (by first | exact Frz.pure rfl | exact Frz.nils | exact Frz.whole rfl rfl rfl rfl (by first | exact em_len _ _ | (rw [em_len]; omega) | (rw [em_len, List.length_append]))) (Frz.aggc (by first | exact Frz.pure rfl | exact Frz.nils | exact Frz.whole rfl rfl rfl rfl (by first | exact em_len _ _ | (rw [em_len]; omega) | (rw [em_len, List.length_append]))) Frz.aggn)))) (Frz.aggc (by first | exact Frz.pure rfl | exact Frz.pures rfl | exact Frz.nils | exact Frz.fn Frz.aggn | exact Frz.whole rfl rfl rfl rfl (by first | exact em_len _ _ | (rw [em_len]; omega) | (rw [em_len, List.length_append])) | exact (Frz.aggc (by first | exact Frz.pure rfl | exact Frz.nils | exact Frz.whole rfl rfl rfl rfl (by first | exact em_len _ _ | (rw [em_len]; omega) | (rw [em_len, List.length_append]))) (Frz.aggc (by first | exact Frz.pure rfl | exact Frz.nils | exact Frz.whole rfl rfl rfl rfl (by first | exact em_len _ _ | (rw [em_len]; omega) | (rw [em_len, List.length_append]))) (Frz.aggc (by first | exact Frz.pure rfl | exact Frz.nils | exact Frz.whole rfl rfl rfl rfl (by first | exact em_len _ _ | (rw [em_len]; omega) | (rw [em_len, List.length_append]))) Frz.aggn)))) (Frz.aggn))) (hY) rfl rfl (fun _ => rfl) ?_
  refine GL.move I0.mono (by conv => lhs; whnf) ?_
  refine GL.call0 I0.mono rfl (Frz.aggc (by first | exact Frz.pure rfl | exact Frz.pures rfl | exact Frz.nils | exact Frz.fn Frz.aggn | exact Frz.whole rfl rfl rfl rfl (by first | exact em_len _ _ | (rw [em_len]; omega) | (rw [em_len, List.length_append])) | exact (Frz.aggc (by first | exact Frz.pure rfl | exact Frz.nils | exact Frz.whole rfl rfl rfl rfl (by first | exact em_len _ _ | (rw [em_len]; omega) | (rw [em_len, List.length_append]))) (Frz.aggc (by first | exact Frz.pure rfl | exact Frz.nils | exact Frz.whole rfl rfl rfl rfl (by first | exact em_len _ _ | (rw [em_len]; omega) | (rw [em_len, List.length_append]))) (Frz.aggc (by first | exact Frz.pure rfl | exact Frz.nils | exact Frz.whole rfl rfl rfl rfl (by first | exact em_len _ _ | (rw [em_len]; omega) | (rw [em_len, List.length_append]))) Frz.aggn)))) (Frz.aggc (by first | exact Frz.pure rfl | exact Frz.pures rfl | exact Frz.nils | exact Frz.fn Frz.aggn | exact Frz.whole rfl rfl rfl rfl (by first | exact em_len _ _ | (rw [em_len]; omega) | (rw [em_len, List.length_append])) | exact (Frz.aggc (by first | exact Frz.pure rfl | exact Frz.nils | exact Frz.whole rfl rfl rfl rfl (by first | exact em_len _ _ | (rw [em_len]; omega) | (rw [em_len, List.length_append]))) (Frz.aggc (by first | exact Frz.pure rfl | exact Frz.nils | exact Frz.whole rfl rfl rfl rfl (by first | exact em_len _ _ | (rw [em_len]; omega) | (rw [em_len, List.length_append]))) (Frz.aggc (by first | exact Frz.pure rfl | exact Frz.nils | exact Frz.whole rfl rfl rfl rfl (by first | exact em_len _ _ | (rw [em_len]; omega) | (rw [em_len, List.length_append]))) Frz.aggn)))) (Frz.aggn))) (hZ) rfl rfl (fun _ => rfl) ?_
  refine GL.assign I0.mono (by conv => lhs; whnf) ?_
  refine GL.assign I0.mono (by conv => lhs; whnf) ?_
  refine GL.assign I0.mono (by conv => lhs; whnf) ?_
  refine GL.doneF ?_
  refine goOn ?_
  refine Wp.seqI ?_
  rcases Nat.eq_zero_or_pos Y.length with hy0 | hy0
  ·skip
   refine Wp.regI I0.mono ?_
   refine GL.move I0.mono (by conv => lhs; whnf) ?_
   refine GL.callSlo I0.mono (n := X.length) rfl (Frz.aggc (by first | exact Frz.pure rfl | exact Frz.pures rfl | exact Frz.nils | exact Frz.fn Frz.aggn | exact Frz.whole rfl rfl rfl rfl (by first | exact em_len _ _ | (rw [em_len]; omega) | (rw [em_len, List.length_append])) | exact (Frz.aggc (by first | exact Frz.pure rfl | exact Frz.nils | exact Frz.whole rfl rfl rfl rfl (by first | exact em_len _ _ | (rw [em_len]; omega) | (rw [em_len, List.length_append]))) (Frz.aggc (by first | exact Frz.pure rfl | exact Frz.nils | exact Frz.whole rfl rfl rfl rfl (by first | exact em_len _ _ | (rw [em_len]; omega) | (rw [em_len, List.length_append]))) (Frz.aggc (by first | exact Frz.pure rfl | exact Frz.nils | exact Frz.whole rfl rfl rfl rfl (by first | exact em_len _ _ | (rw [em_len]; omega) | (rw [em_len, List.length_append]))) Frz.aggn)))) (Frz.aggn)) (copy_ok X (by omega)) rfl (em_len _ _) ?_
   intro g21
   refine GL.move I0.mono (by conv => lhs; whnf) ?_
   refine GL.appendE I0.mono rfl rfl rfl rfl rfl rfl (show LV.sl (em ni Y) = .sl [] by rw [List.eq_nil_of_length_eq_zero hy0]; rfl) ?_
   refine GL.move I0.mono (by conv => lhs; whnf) ?_
   refine GL.buildS I0.mono (z := [LV.int .i64 0, LV.nils, LV.nils]) (cs := [_, _, _]) (n := 3) rfl rfl rfl (EvS.cons (by conv => lhs; whnf) (EvS.cons (by conv => lhs; whnf) (EvS.cons (by conv => lhs; whnf) (EvS.nil)))) rfl rfl ?_
   refine GL.move I0.mono (by conv => lhs; whnf) ?_
   refine GL.move I0.mono (by conv => lhs; whnf) ?_
   refine GL.buildS I0.mono (z := [LV.int .i64 0, LV.nils, LV.nils]) (cs := [_, _, _]) (n := 3) rfl rfl rfl (EvS.cons (by conv => lhs; whnf) (EvS.cons (by conv => lhs; whnf) (EvS.cons (by conv => lhs; whnf) (EvS.nil)))) rfl rfl ?_
   refine GL.buildSliceM I0.mono (sz := 3) (z := [.int .i64 0, .nils, .nils]) (es := em kt [⟨0, X, Z⟩, ⟨1, Z, X⟩]) rfl rfl rfl rfl (by decide) (by decide) (by decide) (FrzP.cons (Frz.aggc (by first | exact Frz.pure rfl | exact Frz.nils | exact Frz.whole rfl rfl rfl rfl (by first | exact em_len _ _ | (rw [em_len]; omega) | (rw [em_len, List.length_append]))) (Frz.aggc (by first | exact Frz.pure rfl | exact Frz.nils | exact Frz.whole rfl rfl rfl rfl (by first | exact em_len _ _ | (rw [em_len]; omega) | (rw [em_len, List.length_append]))) (Frz.aggc (by first | exact Frz.pure rfl | exact Frz.nils | exact Frz.whole rfl rfl rfl rfl (by first | exact em_len _ _ | (rw [em_len]; omega) | (rw [em_len, List.length_append]))) Frz.aggn))) rfl (by decide) rfl (FrzP.cons (Frz.aggc (by first | exact Frz.pure rfl | exact Frz.nils | exact Frz.whole rfl rfl rfl rfl (by first | exact em_len _ _ | (rw [em_len]; omega) | (rw [em_len, List.length_append]))) (Frz.aggc (by first | exact Frz.pure rfl | exact Frz.nils | exact Frz.whole rfl rfl rfl rfl (by first | exact em_len _ _ | (rw [em_len]; omega) | (rw [em_len, List.length_append]))) (Frz.aggc (by first | exact Frz.pure rfl | exact Frz.nils | exact Frz.whole rfl rfl rfl rfl (by first | exact em_len _ _ | (rw [em_len]; omega) | (rw [em_len, List.length_append]))) Frz.aggn))) rfl (by decide) rfl (FrzP.nil))) rfl rfl ?_
   intro g29
   rw [show em kt [⟨0, X, Z⟩, ⟨1, Z, X⟩] = em kt [⟨0, X ++ Y, Z⟩, ⟨1, Z, X⟩] from by rw [List.eq_nil_of_length_eq_zero hy0, List.append_nil]]
   refine GL.buildS I0.mono (z := [LV.nils, LV.nils, LV.nils]) (cs := [_, _, _]) (n := 3) rfl rfl rfl (EvS.cons (by conv => lhs; whnf) (EvS.nil)) rfl rfl ?_
   refine GL.alloc I0.mono (cs := [LV.nils, LV.nils, LV.nils]) rfl rfl ?_
   intro g10
   first | refine GL.storeW I0.mono (n := 3) rfl rfl rfl rfl rfl rfl rfl (by conv => lhs; whnf) rfl rfl rfl ?_ | refine GL.store I0.mono (n := 3) rfl rfl rfl rfl rfl rfl rfl rfl rfl rfl (Nat.le_of_ble_eq_true rfl) (by first | (conv => lhs; simp only [List.take_succ_cons, List.take_zero, List.drop_succ_cons, List.drop_zero, List.nil_append, List.cons_append, List.drop_nil, List.append_nil, List.take_nil, List.set_cons_zero, List.set_cons_succ, Nat.zero_add, ni, nr, nc, ns, np, ic, nt, ei, cellsL]) | rfl) (by first | (conv => lhs; simp only [List.take_succ_cons, List.take_zero, List.drop_succ_cons, List.drop_zero, List.nil_append, List.cons_append, List.drop_nil, List.append_nil, List.take_nil, List.set_cons_zero, List.set_cons_succ, Nat.zero_add, ni, nr, nc, ns, np, ic, nt, ei, cellsL]) | rfl) ?_
   refine GL.doneF ?_
   refine goWeak (Weak.mark _ _ [1856]) ?_
   refine Wp.seqI ?_
   refine Wp.regI I0.mono ?_
   refine GL.move I0.mono (by conv => lhs; whnf) ?_
   refine GL.assign I0.mono (by conv => lhs; whnf) ?_
   refine GL.doneF ?_
   refine goOn ?_
   refine Wp.seqI ?_
   refine Wp.seqI ?_
   refine Wp.regI I0.mono ?_
   refine GL.assign I0.mono (by conv => lhs; whnf) ?_
   refine GL.doneF ?_
   refine goOn ?_
   refine Wp.blockI ?_
   refine Wp.loopI I0.mono (α := Nat × List Int) (fun ⟨k, w⟩ st => (Bub Y w k 0) ∧ ∃ m0, st = ⟨(updS (updS (updS (fun _ => LV.undef) 10 (.ref 640 g10 0 0)) 11 (.sl (em ni w))) 12 (.int .i64 (k : Int))), effM m0 [(640, ⟨g10, false, .var, 3, [[.own 1856 g29 0 2 none, .nils, .nils]]⟩), (1856, ⟨g29, true, .slc, 3, em kt [⟨0, X ++ Y, Z⟩, ⟨1, Z, X⟩]⟩)]⟩) (fun ⟨k, w⟩ => Y.length - k) ⟨0, Y⟩ ⟨_, (LessS.weak (LessS.upd (LessS.upd (LessS.upd (LessS.nil _) rfl) rfl) rfl) _), Bub.init Y, _, (congrArg (St.mk _) (effM_eq (Has.cons rfl (Has.cons rfl Has.nil))).symm)⟩ ?_
   rintro ⟨k, w⟩ _ ⟨hB, m0, rfl⟩
   have hwl := hB.len
   refine Wp.seqI ?_
   refine Wp.seqI ?_
   refine Wp.regI I0.mono ?_
   refine GL.move I0.mono (by conv => lhs; whnf) ?_
   refine GL.move I0.mono (by conv => lhs; whnf) ?_
   first | refine GL.lenF I0.mono rfl rfl (em_len _ _) ?_ | refine GL.lenO I0.mono rfl rfl rfl rfl ?_ | refine GL.lenN I0.mono rfl rfl ?_
   refine GL.bin I0.mono rfl ?_
   refine GL.doneF ?_
   refine goOn ?_
   refine Wp.condI rfl (fun h35 => ?_) (fun h35 => ?_)
   ·first | replace h35 := of_decide_eq_true h35 | replace h35 := bne_true h35 | skip
    refine Wp.skipI ?_
    refine goOn ?_
    refine Wp.seqI ?_
    refine Wp.blockI ?_
    refine Wp.seqI ?_
    refine Wp.regI I0.mono ?_
    refine GL.assign I0.mono (by conv => lhs; whnf) ?_
    refine GL.doneF ?_
    refine goOn ?_
    refine Wp.blockI ?_
    refine Wp.loopI I0.mono (α := Nat × List Int) (fun ⟨j, w2⟩ st => (Bub Y w2 k j ∧ (j = 0 ∨ j < w2.length)) ∧ ∃ m0, st = ⟨(updS (updS (updS (updS (fun _ => LV.undef) 10 (.ref 640 g10 0 0)) 11 (.sl (em ni w2))) 12 (.int .i64 (k : Int))) 13 (.int .i64 (j : Int))), effM m0 [(640, ⟨g10, false, .var, 3, [[.own 1856 g29 0 2 none, .nils, .nils]]⟩), (1856, ⟨g29, true, .slc, 3, em kt [⟨0, X ++ Y, Z⟩, ⟨1, Z, X⟩]⟩)]⟩) (fun ⟨j, w2⟩ => Y.length - j) ⟨0, w⟩ ⟨_, (LessS.weak (LessS.upd (LessS.upd (LessS.upd (LessS.upd (LessS.nil _) rfl) rfl) rfl) rfl) _), ⟨hB, .inl rfl⟩, _, (congrArg (St.mk _) (effM_eq (Has.cons rfl (Has.cons rfl Has.nil))).symm)⟩ ?_
    rintro ⟨j, w2⟩ _ ⟨⟨hB2, hj⟩, m0, rfl⟩
    have hwl2 := hB2.len
    refine Wp.seqI ?_
    refine Wp.seqI ?_
    refine Wp.regI I0.mono ?_
    refine GL.move I0.mono (by conv => lhs; whnf) ?_
    first | refine GL.addR I0.mono rfl rfl (by first | omega | assumption) ?_ | refine GL.bin I0.mono rfl ?_
    refine GL.move I0.mono (by conv => lhs; whnf) ?_
    first | refine GL.lenF I0.mono rfl rfl (em_len _ _) ?_ | refine GL.lenO I0.mono rfl rfl rfl rfl ?_ | refine GL.lenN I0.mono rfl rfl ?_
    refine GL.bin I0.mono rfl ?_
    refine GL.doneF ?_
    refine goOn ?_
    refine Wp.condI rfl (fun h42 => ?_) (fun h42 => ?_)
    ·first | replace h42 := of_decide_eq_true h42 | replace h42 := bne_true h42 | skip
     refine Wp.skipI ?_
     refine goOn ?_
     refine Wp.seqI ?_
     refine Wp.blockI ?_
     refine Wp.seqI ?_
     refine Wp.regD ?_
     refine GL.move I0.mono (by conv => lhs; whnf) ?_
     refine GL.move I0.mono (by conv => lhs; whnf) ?_
     first | refine GL.indexAddrF I0.mono (sz := 1) rfl rfl rfl rfl (by omega) (by first | omega | (rw [em_len]; omega)) (by intro e he; obtain ⟨a, -, rfl⟩ := List.mem_map.1 he; rfl) (by first | with_reducible exact Int.toNat_natCast _ | rfl) ?_ | refine GL.indexAddr I0.mono (sz := 1) rfl rfl rfl rfl rfl rfl rfl rfl (by omega) (by first | omega | (rw [em_len]; omega)) (by first | (conv => lhs; simp only [Nat.zero_add, Int.toNat_natCast]) | rfl) ?_
     first | refine GL.load I0.mono rfl rfl rfl rfl (by simp) rfl rfl ?_ | refine GL.loadF I0.mono rfl rfl (em_get (by omega)) rfl ?_
     refine GL.move I0.mono (by conv => lhs; whnf) ?_
     refine GL.move I0.mono (by conv => lhs; whnf) ?_
     first | refine GL.addR I0.mono rfl rfl (by first | omega | assumption) ?_ | refine GL.bin I0.mono rfl ?_
     refine GL.indexAddrF I0.mono (sz := 1) (j := j + 1) rfl rfl rfl rfl (by omega) (by rw [em_len]; omega) (by intro e he; obtain ⟨a, -, rfl⟩ := List.mem_map.1 he; rfl) (by omega) ?_
     first | refine GL.load I0.mono rfl rfl rfl rfl (by simp) rfl rfl ?_ | refine GL.loadF I0.mono rfl rfl (em_get (by omega)) rfl ?_
     refine GL.bin I0.mono rfl ?_
     refine GL.doneT (by kernel_rfl) ?_
     refine goOn ?_
     refine Wp.condI rfl (fun h54 => ?_) (fun h54 => ?_)
     ·first | replace h54 := of_decide_eq_true h54 | replace h54 := bne_true h54 | skip
      rcases Nat.eq_zero_or_pos j with hj0 | hj0
      ·skip
       rcases Nat.lt_or_ge (j + 2) w2.length with hd0 | hd0
       ·skip
        refine Wp.regD ?_
        refine GL.move I0.mono (by conv => lhs; whnf) ?_
        refine GL.move I0.mono (by conv => lhs; whnf) ?_
        refine GL.sliceTo I0.mono (sz := 1) rfl rfl rfl rfl (by intro e he; obtain ⟨a, -, rfl⟩ := List.mem_map.1 he; rfl) (by omega) (by omega) (by first | with_reducible exact Int.toNat_natCast _ | rfl) ?_
        refine GL.appendNil I0.mono rfl rfl rfl rfl (show LV.sl (em ni (w2.take j)) = .sl [] by rw [hj0]; rfl) ?_
        refine GL.move I0.mono (by conv => lhs; whnf) ?_
        refine GL.move I0.mono (by conv => lhs; whnf) ?_
        first | refine GL.addR I0.mono rfl rfl (by first | omega | assumption) ?_ | refine GL.bin I0.mono rfl ?_
        refine GL.indexAddrF I0.mono (sz := 1) (j := j + 1) rfl rfl rfl rfl (by omega) (by rw [em_len]; omega) (by intro e he; obtain ⟨a, -, rfl⟩ := List.mem_map.1 he; rfl) (by omega) ?_
        first | refine GL.load I0.mono rfl rfl rfl rfl (by simp) rfl rfl ?_ | refine GL.loadF I0.mono rfl rfl (em_get (by omega)) rfl ?_
        refine GL.move I0.mono (by conv => lhs; whnf) ?_
        refine GL.move I0.mono (by conv => lhs; whnf) ?_
        first | refine GL.indexAddrF I0.mono (sz := 1) rfl rfl rfl rfl (by omega) (by first | omega | (rw [em_len]; omega)) (by intro e he; obtain ⟨a, -, rfl⟩ := List.mem_map.1 he; rfl) (by first | with_reducible exact Int.toNat_natCast _ | rfl) ?_ | refine GL.indexAddr I0.mono (sz := 1) rfl rfl rfl rfl rfl rfl rfl rfl (by omega) (by first | omega | (rw [em_len]; omega)) (by first | (conv => lhs; simp only [Nat.zero_add, Int.toNat_natCast]) | rfl) ?_
        first | refine GL.load I0.mono rfl rfl rfl rfl (by simp) rfl rfl ?_ | refine GL.loadF I0.mono rfl rfl (em_get (by omega)) rfl ?_
        refine GL.buildSlice0 I0.mono (sz := 1) (z := [LV.int .i64 0]) (es := em ni [w2.getD (j + 1) default, w2.getD j default]) rfl rfl rfl rfl (by decide) (by decide) (by decide) (FrzP.cons (S := []) (T := []) (Frz.aggc (S := []) (T := []) (Frz.pure rfl) Frz.aggn) rfl (by decide) rfl (FrzP.cons (S := []) (T := []) (Frz.aggc (S := []) (T := []) (Frz.pure rfl) Frz.aggn) rfl (by decide) rfl (FrzP.nil))) rfl ?_
        intro g68
        refine GL.appendN I0.mono (es := em ni [w2.getD (j + 1) default, w2.getD j default]) (n := 2) rfl rfl rfl rfl rfl (by decide) (Nat.le_of_ble_eq_true rfl) rfl (SrcR.own (b := 4352) (g := g68) (x := ⟨g68, false, .slc, 1, em ni [w2.getD (j + 1) default, w2.getD j default]⟩) (off := 0) (len := 2) (cap := none) rfl rfl rfl (Nat.le_refl _)) rfl (by decide) (em_one (fun _ => rfl) _) (by decide) ?_
        intro g69
        refine GL.move I0.mono (by conv => lhs; whnf) ?_
        refine GL.move I0.mono (by conv => lhs; whnf) ?_
        first | refine GL.addR I0.mono rfl rfl (by first | omega | assumption) ?_ | refine GL.bin I0.mono rfl ?_
        refine GL.sliceFrom I0.mono (sz := 1) (j := j + 2) rfl rfl rfl rfl (by intro e he; obtain ⟨a, -, rfl⟩ := List.mem_map.1 he; rfl) (by omega) (by omega) (by omega) ?_
        refine GL.appendO I0.mono (f := ni) (l := [w2.getD (j + 1) default, w2.getD j default]) (l2 := w2.drop (j + 2)) (n2 := (w2.drop (j + 2)).length) (sz := 1) (z := [.int .i64 0]) rfl rfl rfl rfl rfl (by decide) (Nat.le_of_ble_eq_true rfl) rfl rfl rfl rfl rfl rfl rfl rfl rfl (fun _ => rfl) (fun _ => rfl) rfl (by rw [List.length_drop]; omega) (by rw [List.length_drop]; first | omega | (rw [List.length_take]; omega)) ?_
        refine GL.assign I0.mono (by conv => lhs; whnf) ?_
        refine GL.doneT (by kernel_rfl) ?_
        refine blockX.normal ?_
        refine goWeak (Weak.frzSlot (j := 11) (l := .sl (em ni (swapAt w2 j))) (by first | (rw [sw_ze hj0 hd0]; exact Frz.whole rfl rfl rfl rfl (by first | rfl | (simp only [em_len, List.length_append, List.length_cons, List.length_nil]; done) | (simp only [em_len, List.length_append, List.length_cons, List.length_nil]; omega))) | (rw [sw_zn hj0]; exact Frz.whole rfl rfl rfl rfl (by first | rfl | (simp only [em_len, List.length_append, List.length_cons, List.length_nil]; done) | (simp only [em_len, List.length_append, List.length_cons, List.length_nil]; omega))) | (rw [sw_pe hd0]; exact Frz.whole rfl rfl rfl rfl (by first | rfl | (simp only [em_len, List.length_append, List.length_cons, List.length_nil]; done) | (simp only [em_len, List.length_append, List.length_cons, List.length_nil]; omega))) | (rw [swapAt]; exact Frz.whole rfl rfl rfl rfl (by first | rfl | (simp only [em_len, List.length_append, List.length_cons, List.length_nil]; done) | (simp only [em_len, List.length_append, List.length_cons, List.length_nil]; omega))))) ?_
        refine Wp.regI I0.mono ?_
        refine GL.move I0.mono (by conv => lhs; whnf) ?_
        first | refine GL.addR I0.mono rfl rfl (by first | omega | assumption) ?_ | refine GL.bin I0.mono rfl ?_
        refine GL.assign I0.mono (by conv => lhs; whnf) ?_
        refine GL.doneF ?_
        first
        | refine ⟨⟨j + 1, w2⟩, (by dsimp only; omega), _, (LessS.weak (LessS.upd (LessS.upd (LessS.upd (LessS.upd (LessS.nil _) rfl) rfl) rfl) rfl) _), ⟨hB2.keep (by omega) (by omega), .inr (by omega)⟩, _, (congrArg (St.mk _) (effM_eq (Has.cons rfl (Has.cons rfl Has.nil))).symm)⟩
        | refine ⟨⟨j + 1, swapAt w2 j⟩, (by dsimp only; omega), _, (LessS.weak (LessS.upd (LessS.upd (LessS.upd (LessS.upd (LessS.nil _) rfl) rfl) rfl) rfl) _), ⟨hB2.swap (by omega) (by omega), .inr (by rw [swapAt_len (by omega)]; omega)⟩, _, (congrArg (St.mk _) (effM_eq (Has.cons rfl (Has.cons rfl Has.nil))).symm)⟩
       ·skip
        refine Wp.regD ?_
        refine GL.move I0.mono (by conv => lhs; whnf) ?_
        refine GL.move I0.mono (by conv => lhs; whnf) ?_
        refine GL.sliceTo I0.mono (sz := 1) rfl rfl rfl rfl (by intro e he; obtain ⟨a, -, rfl⟩ := List.mem_map.1 he; rfl) (by omega) (by omega) (by first | with_reducible exact Int.toNat_natCast _ | rfl) ?_
        refine GL.appendNil I0.mono rfl rfl rfl rfl (show LV.sl (em ni (w2.take j)) = .sl [] by rw [hj0]; rfl) ?_
        refine GL.move I0.mono (by conv => lhs; whnf) ?_
        refine GL.move I0.mono (by conv => lhs; whnf) ?_
        first | refine GL.addR I0.mono rfl rfl (by first | omega | assumption) ?_ | refine GL.bin I0.mono rfl ?_
        refine GL.indexAddrF I0.mono (sz := 1) (j := j + 1) rfl rfl rfl rfl (by omega) (by rw [em_len]; omega) (by intro e he; obtain ⟨a, -, rfl⟩ := List.mem_map.1 he; rfl) (by omega) ?_
        first | refine GL.load I0.mono rfl rfl rfl rfl (by simp) rfl rfl ?_ | refine GL.loadF I0.mono rfl rfl (em_get (by omega)) rfl ?_
        refine GL.move I0.mono (by conv => lhs; whnf) ?_
        refine GL.move I0.mono (by conv => lhs; whnf) ?_
        first | refine GL.indexAddrF I0.mono (sz := 1) rfl rfl rfl rfl (by omega) (by first | omega | (rw [em_len]; omega)) (by intro e he; obtain ⟨a, -, rfl⟩ := List.mem_map.1 he; rfl) (by first | with_reducible exact Int.toNat_natCast _ | rfl) ?_ | refine GL.indexAddr I0.mono (sz := 1) rfl rfl rfl rfl rfl rfl rfl rfl (by omega) (by first | omega | (rw [em_len]; omega)) (by first | (conv => lhs; simp only [Nat.zero_add, Int.toNat_natCast]) | rfl) ?_
        first | refine GL.load I0.mono rfl rfl rfl rfl (by simp) rfl rfl ?_ | refine GL.loadF I0.mono rfl rfl (em_get (by omega)) rfl ?_
        refine GL.buildSlice0 I0.mono (sz := 1) (z := [LV.int .i64 0]) (es := em ni [w2.getD (j + 1) default, w2.getD j default]) rfl rfl rfl rfl (by decide) (by decide) (by decide) (FrzP.cons (S := []) (T := []) (Frz.aggc (S := []) (T := []) (Frz.pure rfl) Frz.aggn) rfl (by decide) rfl (FrzP.cons (S := []) (T := []) (Frz.aggc (S := []) (T := []) (Frz.pure rfl) Frz.aggn) rfl (by decide) rfl (FrzP.nil))) rfl ?_
        intro g68
        refine GL.appendN I0.mono (es := em ni [w2.getD (j + 1) default, w2.getD j default]) (n := 2) rfl rfl rfl rfl rfl (by decide) (Nat.le_of_ble_eq_true rfl) rfl (SrcR.own (b := 4352) (g := g68) (x := ⟨g68, false, .slc, 1, em ni [w2.getD (j + 1) default, w2.getD j default]⟩) (off := 0) (len := 2) (cap := none) rfl rfl rfl (Nat.le_refl _)) rfl (by decide) (em_one (fun _ => rfl) _) (by decide) ?_
        intro g69
        refine GL.move I0.mono (by conv => lhs; whnf) ?_
        refine GL.move I0.mono (by conv => lhs; whnf) ?_
        first | refine GL.addR I0.mono rfl rfl (by first | omega | assumption) ?_ | refine GL.bin I0.mono rfl ?_
        refine GL.sliceFrom I0.mono (sz := 1) (j := j + 2) rfl rfl rfl rfl (by intro e he; obtain ⟨a, -, rfl⟩ := List.mem_map.1 he; rfl) (by omega) (by omega) (by omega) ?_
        refine GL.appendE I0.mono rfl rfl rfl rfl rfl rfl (show LV.sl (em ni (w2.drop (j + 2))) = .sl [] by rw [List.drop_of_length_le hd0]; rfl) ?_
        refine GL.assign I0.mono (by conv => lhs; whnf) ?_
        refine GL.doneT (by kernel_rfl) ?_
        refine blockX.normal ?_
        refine goWeak (Weak.frzSlot (j := 11) (l := .sl (em ni (swapAt w2 j))) (by first | (rw [sw_ze hj0 hd0]; exact Frz.whole rfl rfl rfl rfl (by first | rfl | (simp only [em_len, List.length_append, List.length_cons, List.length_nil]; done) | (simp only [em_len, List.length_append, List.length_cons, List.length_nil]; omega))) | (rw [sw_zn hj0]; exact Frz.whole rfl rfl rfl rfl (by first | rfl | (simp only [em_len, List.length_append, List.length_cons, List.length_nil]; done) | (simp only [em_len, List.length_append, List.length_cons, List.length_nil]; omega))) | (rw [sw_pe hd0]; exact Frz.whole rfl rfl rfl rfl (by first | rfl | (simp only [em_len, List.length_append, List.length_cons, List.length_nil]; done) | (simp only [em_len, List.length_append, List.length_cons, List.length_nil]; omega))) | (rw [swapAt]; exact Frz.whole rfl rfl rfl rfl (by first | rfl | (simp only [em_len, List.length_append, List.length_cons, List.length_nil]; done) | (simp only [em_len, List.length_append, List.length_cons, List.length_nil]; omega))))) ?_
        refine Wp.regI I0.mono ?_
        refine GL.move I0.mono (by conv => lhs; whnf) ?_
        first | refine GL.addR I0.mono rfl rfl (by first | omega | assumption) ?_ | refine GL.bin I0.mono rfl ?_
        refine GL.assign I0.mono (by conv => lhs; whnf) ?_
        refine GL.doneF ?_
        first
        | refine ⟨⟨j + 1, w2⟩, (by dsimp only; omega), _, (LessS.weak (LessS.upd (LessS.upd (LessS.upd (LessS.upd (LessS.nil _) rfl) rfl) rfl) rfl) _), ⟨hB2.keep (by omega) (by omega), .inr (by omega)⟩, _, (congrArg (St.mk _) (effM_eq (Has.cons rfl (Has.cons rfl Has.nil))).symm)⟩
        | refine ⟨⟨j + 1, swapAt w2 j⟩, (by dsimp only; omega), _, (LessS.weak (LessS.upd (LessS.upd (LessS.upd (LessS.upd (LessS.nil _) rfl) rfl) rfl) rfl) _), ⟨hB2.swap (by omega) (by omega), .inr (by rw [swapAt_len (by omega)]; omega)⟩, _, (congrArg (St.mk _) (effM_eq (Has.cons rfl (Has.cons rfl Has.nil))).symm)⟩
      ·skip
       rcases Nat.lt_or_ge (j + 2) w2.length with hd0 | hd0
       ·skip
        refine Wp.regD ?_
        refine GL.move I0.mono (by conv => lhs; whnf) ?_
        refine GL.move I0.mono (by conv => lhs; whnf) ?_
        refine GL.sliceTo I0.mono (sz := 1) rfl rfl rfl rfl (by intro e he; obtain ⟨a, -, rfl⟩ := List.mem_map.1 he; rfl) (by omega) (by omega) (by first | with_reducible exact Int.toNat_natCast _ | rfl) ?_
        refine GL.appendSl I0.mono (f := ni) (l := w2.take j) (sz := 1) (z := [.int .i64 0]) rfl rfl rfl rfl rfl (by decide) (Nat.le_of_ble_eq_true rfl) rfl rfl (fun _ => rfl) (fun _ => rfl) (by rw [List.length_take]; omega) (by rw [List.length_take]; omega) ?_
        intro g58
        refine GL.move I0.mono (by conv => lhs; whnf) ?_
        refine GL.move I0.mono (by conv => lhs; whnf) ?_
        first | refine GL.addR I0.mono rfl rfl (by first | omega | assumption) ?_ | refine GL.bin I0.mono rfl ?_
        refine GL.indexAddrF I0.mono (sz := 1) (j := j + 1) rfl rfl rfl rfl (by omega) (by rw [em_len]; omega) (by intro e he; obtain ⟨a, -, rfl⟩ := List.mem_map.1 he; rfl) (by omega) ?_
        first | refine GL.load I0.mono rfl rfl rfl rfl (by simp) rfl rfl ?_ | refine GL.loadF I0.mono rfl rfl (em_get (by omega)) rfl ?_
        refine GL.move I0.mono (by conv => lhs; whnf) ?_
        refine GL.move I0.mono (by conv => lhs; whnf) ?_
        first | refine GL.indexAddrF I0.mono (sz := 1) rfl rfl rfl rfl (by omega) (by first | omega | (rw [em_len]; omega)) (by intro e he; obtain ⟨a, -, rfl⟩ := List.mem_map.1 he; rfl) (by first | with_reducible exact Int.toNat_natCast _ | rfl) ?_ | refine GL.indexAddr I0.mono (sz := 1) rfl rfl rfl rfl rfl rfl rfl rfl (by omega) (by first | omega | (rw [em_len]; omega)) (by first | (conv => lhs; simp only [Nat.zero_add, Int.toNat_natCast]) | rfl) ?_
        first | refine GL.load I0.mono rfl rfl rfl rfl (by simp) rfl rfl ?_ | refine GL.loadF I0.mono rfl rfl (em_get (by omega)) rfl ?_
        refine GL.buildSlice0 I0.mono (sz := 1) (z := [LV.int .i64 0]) (es := em ni [w2.getD (j + 1) default, w2.getD j default]) rfl rfl rfl rfl (by decide) (by decide) (by decide) (FrzP.cons (S := []) (T := []) (Frz.aggc (S := []) (T := []) (Frz.pure rfl) Frz.aggn) rfl (by decide) rfl (FrzP.cons (S := []) (T := []) (Frz.aggc (S := []) (T := []) (Frz.pure rfl) Frz.aggn) rfl (by decide) rfl (FrzP.nil))) rfl ?_
        intro g68
        refine GL.append I0.mono (n := (w2.take j).length + 2) (es := em ni [w2.getD (j + 1) default, w2.getD j default]) (es' := em ni (w2.take j ++ [w2.getD (j + 1) default, w2.getD j default])) rfl rfl rfl rfl rfl (by decide) (Nat.le_of_ble_eq_true rfl) rfl rfl rfl rfl rfl rfl (by rw [em_len]; omega) (SrcR.own (b := 4352) (g := g68) (x := ⟨g68, false, .slc, 1, em ni [w2.getD (j + 1) default, w2.getD j default]⟩) (off := 0) (len := 2) (cap := none) rfl rfl rfl (Nat.le_refl _)) (by decide) (by simp [em]) (em_one (fun _ => rfl) _) rfl (by show _ + 2 ≤ _; rw [List.length_take]; omega) (by simp [em]) ?_
        refine GL.move I0.mono (by conv => lhs; whnf) ?_
        refine GL.move I0.mono (by conv => lhs; whnf) ?_
        first | refine GL.addR I0.mono rfl rfl (by first | omega | assumption) ?_ | refine GL.bin I0.mono rfl ?_
        refine GL.sliceFrom I0.mono (sz := 1) (j := j + 2) rfl rfl rfl rfl (by intro e he; obtain ⟨a, -, rfl⟩ := List.mem_map.1 he; rfl) (by omega) (by omega) (by omega) ?_
        refine GL.appendO I0.mono (f := ni) (l := w2.take j ++ [w2.getD (j + 1) default, w2.getD j default]) (l2 := w2.drop (j + 2)) (n2 := (w2.drop (j + 2)).length) (sz := 1) (z := [.int .i64 0]) rfl rfl rfl rfl rfl (by decide) (Nat.le_of_ble_eq_true rfl) rfl rfl rfl rfl rfl rfl rfl (by rw [List.length_append]; rfl) rfl (fun _ => rfl) (fun _ => rfl) rfl (by rw [List.length_drop]; omega) (by rw [List.length_drop]; first | omega | (rw [List.length_take]; omega)) ?_
        refine GL.assign I0.mono (by conv => lhs; whnf) ?_
        refine GL.doneT (by kernel_rfl) ?_
        refine blockX.normal ?_
        refine goWeak (Weak.frzSlot (j := 11) (l := .sl (em ni (swapAt w2 j))) (by first | (rw [sw_ze hj0 hd0]; exact Frz.whole rfl rfl rfl rfl (by first | rfl | (simp only [em_len, List.length_append, List.length_cons, List.length_nil]; done) | (simp only [em_len, List.length_append, List.length_cons, List.length_nil]; omega))) | (rw [sw_zn hj0]; exact Frz.whole rfl rfl rfl rfl (by first | rfl | (simp only [em_len, List.length_append, List.length_cons, List.length_nil]; done) | (simp only [em_len, List.length_append, List.length_cons, List.length_nil]; omega))) | (rw [sw_pe hd0]; exact Frz.whole rfl rfl rfl rfl (by first | rfl | (simp only [em_len, List.length_append, List.length_cons, List.length_nil]; done) | (simp only [em_len, List.length_append, List.length_cons, List.length_nil]; omega))) | (rw [swapAt]; exact Frz.whole rfl rfl rfl rfl (by first | rfl | (simp only [em_len, List.length_append, List.length_cons, List.length_nil]; done) | (simp only [em_len, List.length_append, List.length_cons, List.length_nil]; omega))))) ?_
        refine Wp.regI I0.mono ?_
        refine GL.move I0.mono (by conv => lhs; whnf) ?_
        first | refine GL.addR I0.mono rfl rfl (by first | omega | assumption) ?_ | refine GL.bin I0.mono rfl ?_
        refine GL.assign I0.mono (by conv => lhs; whnf) ?_
        refine GL.doneF ?_
        first
        | refine ⟨⟨j + 1, w2⟩, (by dsimp only; omega), _, (LessS.weak (LessS.upd (LessS.upd (LessS.upd (LessS.upd (LessS.nil _) rfl) rfl) rfl) rfl) _), ⟨hB2.keep (by omega) (by omega), .inr (by omega)⟩, _, (congrArg (St.mk _) (effM_eq (Has.cons rfl (Has.cons rfl Has.nil))).symm)⟩
        | refine ⟨⟨j + 1, swapAt w2 j⟩, (by dsimp only; omega), _, (LessS.weak (LessS.upd (LessS.upd (LessS.upd (LessS.upd (LessS.nil _) rfl) rfl) rfl) rfl) _), ⟨hB2.swap (by omega) (by omega), .inr (by rw [swapAt_len (by omega)]; omega)⟩, _, (congrArg (St.mk _) (effM_eq (Has.cons rfl (Has.cons rfl Has.nil))).symm)⟩
       ·skip
        refine Wp.regD ?_
        refine GL.move I0.mono (by conv => lhs; whnf) ?_
        refine GL.move I0.mono (by conv => lhs; whnf) ?_
        refine GL.sliceTo I0.mono (sz := 1) rfl rfl rfl rfl (by intro e he; obtain ⟨a, -, rfl⟩ := List.mem_map.1 he; rfl) (by omega) (by omega) (by first | with_reducible exact Int.toNat_natCast _ | rfl) ?_
        refine GL.appendSl I0.mono (f := ni) (l := w2.take j) (sz := 1) (z := [.int .i64 0]) rfl rfl rfl rfl rfl (by decide) (Nat.le_of_ble_eq_true rfl) rfl rfl (fun _ => rfl) (fun _ => rfl) (by rw [List.length_take]; omega) (by rw [List.length_take]; omega) ?_
        intro g58
        refine GL.move I0.mono (by conv => lhs; whnf) ?_
        refine GL.move I0.mono (by conv => lhs; whnf) ?_
        first | refine GL.addR I0.mono rfl rfl (by first | omega | assumption) ?_ | refine GL.bin I0.mono rfl ?_
        refine GL.indexAddrF I0.mono (sz := 1) (j := j + 1) rfl rfl rfl rfl (by omega) (by rw [em_len]; omega) (by intro e he; obtain ⟨a, -, rfl⟩ := List.mem_map.1 he; rfl) (by omega) ?_
        first | refine GL.load I0.mono rfl rfl rfl rfl (by simp) rfl rfl ?_ | refine GL.loadF I0.mono rfl rfl (em_get (by omega)) rfl ?_
        refine GL.move I0.mono (by conv => lhs; whnf) ?_
        refine GL.move I0.mono (by conv => lhs; whnf) ?_
        first | refine GL.indexAddrF I0.mono (sz := 1) rfl rfl rfl rfl (by omega) (by first | omega | (rw [em_len]; omega)) (by intro e he; obtain ⟨a, -, rfl⟩ := List.mem_map.1 he; rfl) (by first | with_reducible exact Int.toNat_natCast _ | rfl) ?_ | refine GL.indexAddr I0.mono (sz := 1) rfl rfl rfl rfl rfl rfl rfl rfl (by omega) (by first | omega | (rw [em_len]; omega)) (by first | (conv => lhs; simp only [Nat.zero_add, Int.toNat_natCast]) | rfl) ?_
        first | refine GL.load I0.mono rfl rfl rfl rfl (by simp) rfl rfl ?_ | refine GL.loadF I0.mono rfl rfl (em_get (by omega)) rfl ?_
        refine GL.buildSlice0 I0.mono (sz := 1) (z := [LV.int .i64 0]) (es := em ni [w2.getD (j + 1) default, w2.getD j default]) rfl rfl rfl rfl (by decide) (by decide) (by decide) (FrzP.cons (S := []) (T := []) (Frz.aggc (S := []) (T := []) (Frz.pure rfl) Frz.aggn) rfl (by decide) rfl (FrzP.cons (S := []) (T := []) (Frz.aggc (S := []) (T := []) (Frz.pure rfl) Frz.aggn) rfl (by decide) rfl (FrzP.nil))) rfl ?_
        intro g68
        refine GL.append I0.mono (n := (w2.take j).length + 2) (es := em ni [w2.getD (j + 1) default, w2.getD j default]) (es' := em ni (w2.take j ++ [w2.getD (j + 1) default, w2.getD j default])) rfl rfl rfl rfl rfl (by decide) (Nat.le_of_ble_eq_true rfl) rfl rfl rfl rfl rfl rfl (by rw [em_len]; omega) (SrcR.own (b := 4352) (g := g68) (x := ⟨g68, false, .slc, 1, em ni [w2.getD (j + 1) default, w2.getD j default]⟩) (off := 0) (len := 2) (cap := none) rfl rfl rfl (Nat.le_refl _)) (by decide) (by simp [em]) (em_one (fun _ => rfl) _) rfl (by show _ + 2 ≤ _; rw [List.length_take]; omega) (by simp [em]) ?_
        refine GL.move I0.mono (by conv => lhs; whnf) ?_
        refine GL.move I0.mono (by conv => lhs; whnf) ?_
        first | refine GL.addR I0.mono rfl rfl (by first | omega | assumption) ?_ | refine GL.bin I0.mono rfl ?_
        refine GL.sliceFrom I0.mono (sz := 1) (j := j + 2) rfl rfl rfl rfl (by intro e he; obtain ⟨a, -, rfl⟩ := List.mem_map.1 he; rfl) (by omega) (by omega) (by omega) ?_
        refine GL.appendE I0.mono rfl rfl rfl rfl rfl rfl (show LV.sl (em ni (w2.drop (j + 2))) = .sl [] by rw [List.drop_of_length_le hd0]; rfl) ?_
        refine GL.assign I0.mono (by conv => lhs; whnf) ?_
        refine GL.doneT (by kernel_rfl) ?_
        refine blockX.normal ?_
        refine goWeak (Weak.frzSlot (j := 11) (l := .sl (em ni (swapAt w2 j))) (by first | (rw [sw_ze hj0 hd0]; exact Frz.whole rfl rfl rfl rfl (by first | rfl | (simp only [em_len, List.length_append, List.length_cons, List.length_nil]; done) | (simp only [em_len, List.length_append, List.length_cons, List.length_nil]; omega))) | (rw [sw_zn hj0]; exact Frz.whole rfl rfl rfl rfl (by first | rfl | (simp only [em_len, List.length_append, List.length_cons, List.length_nil]; done) | (simp only [em_len, List.length_append, List.length_cons, List.length_nil]; omega))) | (rw [sw_pe hd0]; exact Frz.whole rfl rfl rfl rfl (by first | rfl | (simp only [em_len, List.length_append, List.length_cons, List.length_nil]; done) | (simp only [em_len, List.length_append, List.length_cons, List.length_nil]; omega))) | (rw [swapAt]; exact Frz.whole rfl rfl rfl rfl (by first | rfl | (simp only [em_len, List.length_append, List.length_cons, List.length_nil]; done) | (simp only [em_len, List.length_append, List.length_cons, List.length_nil]; omega))))) ?_
        refine Wp.regI I0.mono ?_
        refine GL.move I0.mono (by conv => lhs; whnf) ?_
        first | refine GL.addR I0.mono rfl rfl (by first | omega | assumption) ?_ | refine GL.bin I0.mono rfl ?_
        refine GL.assign I0.mono (by conv => lhs; whnf) ?_
        refine GL.doneF ?_
        first
        | refine ⟨⟨j + 1, w2⟩, (by dsimp only; omega), _, (LessS.weak (LessS.upd (LessS.upd (LessS.upd (LessS.upd (LessS.nil _) rfl) rfl) rfl) rfl) _), ⟨hB2.keep (by omega) (by omega), .inr (by omega)⟩, _, (congrArg (St.mk _) (effM_eq (Has.cons rfl (Has.cons rfl Has.nil))).symm)⟩
        | refine ⟨⟨j + 1, swapAt w2 j⟩, (by dsimp only; omega), _, (LessS.weak (LessS.upd (LessS.upd (LessS.upd (LessS.upd (LessS.nil _) rfl) rfl) rfl) rfl) _), ⟨hB2.swap (by omega) (by omega), .inr (by rw [swapAt_len (by omega)]; omega)⟩, _, (congrArg (St.mk _) (effM_eq (Has.cons rfl (Has.cons rfl Has.nil))).symm)⟩
     ·first | replace h54 := of_decide_eq_false h54 | replace h54 := bne_false h54 | skip
      refine Wp.skipI ?_
      refine blockX.normal ?_
      refine goOn ?_
      refine Wp.regI I0.mono ?_
      refine GL.move I0.mono (by conv => lhs; whnf) ?_
      first | refine GL.addR I0.mono rfl rfl (by first | omega | assumption) ?_ | refine GL.bin I0.mono rfl ?_
      refine GL.assign I0.mono (by conv => lhs; whnf) ?_
      refine GL.doneF ?_
      first
      | refine ⟨⟨j + 1, w2⟩, (by dsimp only; omega), _, (LessS.weak (LessS.upd (LessS.upd (LessS.upd (LessS.upd (LessS.nil _) rfl) rfl) rfl) rfl) _), ⟨hB2.keep (by omega) (by omega), .inr (by omega)⟩, _, (congrArg (St.mk _) (effM_eq (Has.cons rfl (Has.cons rfl Has.nil))).symm)⟩
      | refine ⟨⟨j + 1, swapAt w2 j⟩, (by dsimp only; omega), _, (LessS.weak (LessS.upd (LessS.upd (LessS.upd (LessS.upd (LessS.nil _) rfl) rfl) rfl) rfl) _), ⟨hB2.swap (by omega) (by omega), .inr (by rw [swapAt_len (by omega)]; omega)⟩, _, (congrArg (St.mk _) (effM_eq (Has.cons rfl (Has.cons rfl Has.nil))).symm)⟩
    ·first | replace h42 := of_decide_eq_false h42 | replace h42 := bne_false h42 | skip
     refine Wp.exitI ?_
     refine thenX.exit ?_
     refine thenX.exit ?_
     refine blockX.out ?_
     refine blockX.normal ?_
     refine goOn ?_
     refine Wp.regI I0.mono ?_
     refine GL.move I0.mono (by conv => lhs; whnf) ?_
     first | refine GL.addR I0.mono rfl rfl (by first | omega | assumption) ?_ | refine GL.bin I0.mono rfl ?_
     refine GL.assign I0.mono (by conv => lhs; whnf) ?_
     refine GL.doneF ?_
     refine ⟨⟨k + 1, w2⟩, (by dsimp only; omega), _, (LessS.weak (LessS.upd (LessS.upd (LessS.upd (LessS.nil _) rfl) rfl) rfl) _), hB2.next (by omega) hj, _, (congrArg (St.mk _) (effM_eq (Has.cons rfl (Has.cons rfl Has.nil))).symm)⟩
   ·first | replace h35 := of_decide_eq_false h35 | replace h35 := bne_false h35 | skip
    have hws : w = sorted Y := hB.done (by omega)
    rw [hws]
    refine Wp.exitI ?_
    refine thenX.exit ?_
    refine thenX.exit ?_
    refine blockX.out ?_
    refine goOn ?_
    refine Wp.seqI ?_
    refine Wp.regI I0.mono ?_
    first | refine GL.loadW I0.mono (n := 3) rfl rfl rfl rfl (by simp) rfl rfl rfl ?_ | refine GL.loadFW I0.mono (n := 3) rfl rfl (em_get (by omega)) rfl rfl ?_ | refine GL.loadA I0.mono (n := 3) rfl rfl rfl rfl (by simp) rfl rfl (Nat.le_of_ble_eq_true rfl) (by first | (conv => lhs; simp only [List.take_succ_cons, List.take_zero, List.drop_succ_cons, List.drop_zero, List.nil_append, List.cons_append, List.drop_nil, List.append_nil, List.take_nil, List.set_cons_zero, List.set_cons_succ, Nat.zero_add, ni, nr, nc, ns, np, ic, nt, ei, cellsL]) | rfl) ?_ | refine GL.loadFA I0.mono (n := 3) rfl rfl (em_get (by omega)) rfl (Nat.le_of_ble_eq_true rfl) (by first | (conv => lhs; simp only [List.take_succ_cons, List.take_zero, List.drop_succ_cons, List.drop_zero, List.nil_append, List.cons_append, List.drop_nil, List.append_nil, List.take_nil, List.set_cons_zero, List.set_cons_succ, Nat.zero_add, ni, nr, nc, ns, np, ic, nt, ei, cellsL]) | rfl) ?_
    refine GL.call0 I0.mono rfl (Frz.aggc (by first | exact Frz.pures rfl | exact (Frz.aggc (by first | exact Frz.pure rfl | exact Frz.nils | exact Frz.whole rfl rfl rfl rfl (by first | exact em_len _ _ | (rw [em_len]; omega) | (rw [em_len, List.length_append]))) (Frz.aggc (by first | exact Frz.pure rfl | exact Frz.nils | exact Frz.whole rfl rfl rfl rfl (by first | exact em_len _ _ | (rw [em_len]; omega) | (rw [em_len, List.length_append]))) (Frz.aggc (by first | exact Frz.pure rfl | exact Frz.nils | exact Frz.whole rfl rfl rfl rfl (by first | exact em_len _ _ | (rw [em_len]; omega) | (rw [em_len, List.length_append]))) Frz.aggn)))) Frz.aggn) (hM1) rfl rfl (fun _ => rfl) ?_
    refine GL.move I0.mono (by conv => lhs; whnf) ?_
    refine GL.call0 I0.mono rfl (Frz.aggc (Frz.pure rfl) (Frz.aggc (Frz.pure rfl) Frz.aggn)) (sS_ok _ (by rw [Short, sorted_len]; omega)) rfl rfl (fun _ => rfl) ?_
    refine GL.move I0.mono (by conv => lhs; whnf) ?_
    refine GL.guardT rfl ?_
    first | refine GL.loadW I0.mono (n := 3) rfl rfl rfl rfl (by simp) rfl rfl rfl ?_ | refine GL.loadFW I0.mono (n := 3) rfl rfl (em_get (by omega)) rfl rfl ?_ | refine GL.loadA I0.mono (n := 3) rfl rfl rfl rfl (by simp) rfl rfl (Nat.le_of_ble_eq_true rfl) (by first | (conv => lhs; simp only [List.take_succ_cons, List.take_zero, List.drop_succ_cons, List.drop_zero, List.nil_append, List.cons_append, List.drop_nil, List.append_nil, List.take_nil, List.set_cons_zero, List.set_cons_succ, Nat.zero_add, ni, nr, nc, ns, np, ic, nt, ei, cellsL]) | rfl) ?_ | refine GL.loadFA I0.mono (n := 3) rfl rfl (em_get (by omega)) rfl (Nat.le_of_ble_eq_true rfl) (by first | (conv => lhs; simp only [List.take_succ_cons, List.take_zero, List.drop_succ_cons, List.drop_zero, List.nil_append, List.cons_append, List.drop_nil, List.append_nil, List.take_nil, List.set_cons_zero, List.set_cons_succ, Nat.zero_add, ni, nr, nc, ns, np, ic, nt, ei, cellsL]) | rfl) ?_
    refine GL.guardT rfl ?_
    refine GL.call0 I0.mono rfl (Frz.aggc (by first | exact Frz.pure rfl | exact Frz.pures rfl | exact Frz.nils | exact Frz.fn Frz.aggn | exact Frz.whole rfl rfl rfl rfl (by first | exact em_len _ _ | (rw [em_len]; omega) | (rw [em_len, List.length_append])) | exact (Frz.aggc (by first | exact Frz.pure rfl | exact Frz.nils | exact Frz.whole rfl rfl rfl rfl (by first | exact em_len _ _ | (rw [em_len]; omega) | (rw [em_len, List.length_append]))) (Frz.aggc (by first | exact Frz.pure rfl | exact Frz.nils | exact Frz.whole rfl rfl rfl rfl (by first | exact em_len _ _ | (rw [em_len]; omega) | (rw [em_len, List.length_append]))) (Frz.aggc (by first | exact Frz.pure rfl | exact Frz.nils | exact Frz.whole rfl rfl rfl rfl (by first | exact em_len _ _ | (rw [em_len]; omega) | (rw [em_len, List.length_append]))) Frz.aggn)))) (Frz.aggn)) (hI) rfl rfl (fun _ => rfl) ?_
    refine GL.guardT rfl ?_
    refine GL.call0 I0.mono rfl (Frz.aggc (by first | exact Frz.pure rfl | exact Frz.pures rfl | exact Frz.nils | exact Frz.fn Frz.aggn | exact Frz.whole rfl rfl rfl rfl (by first | exact em_len _ _ | (rw [em_len]; omega) | (rw [em_len, List.length_append])) | exact (Frz.aggc (by first | exact Frz.pure rfl | exact Frz.nils | exact Frz.whole rfl rfl rfl rfl (by first | exact em_len _ _ | (rw [em_len]; omega) | (rw [em_len, List.length_append]))) (Frz.aggc (by first | exact Frz.pure rfl | exact Frz.nils | exact Frz.whole rfl rfl rfl rfl (by first | exact em_len _ _ | (rw [em_len]; omega) | (rw [em_len, List.length_append]))) (Frz.aggc (by first | exact Frz.pure rfl | exact Frz.nils | exact Frz.whole rfl rfl rfl rfl (by first | exact em_len _ _ | (rw [em_len]; omega) | (rw [em_len, List.length_append]))) Frz.aggn)))) (Frz.aggn)) (hM2) rfl rfl (fun _ => rfl) ?_
    refine GL.guardT rfl ?_
    refine GL.move I0.mono (by conv => lhs; whnf) ?_
    refine GL.guardT rfl ?_
    refine GL.call0 I0.mono rfl (Frz.aggc (Frz.pure rfl) (Frz.aggc (Frz.pure rfl) Frz.aggn)) (sS_ok _ (by rw [Short, sorted_len]; omega)) rfl rfl (fun _ => rfl) ?_
    refine GL.pick I0.mono rfl (by conv => lhs; whnf) ?_
    refine GL.move I0.mono (by conv => lhs; whnf) ?_
    refine GL.guardT rfl ?_
    refine GL.buildS I0.mono (z := [LV.nils, LV.nils, LV.nils]) (cs := [_, _, _]) (n := 3) rfl rfl rfl (EvS.nil) rfl rfl ?_
    refine GL.guardT rfl ?_
    refine GL.call0 I0.mono rfl (Frz.aggc (by first | exact Frz.pures rfl | exact (Frz.aggc (by first | exact Frz.pure rfl | exact Frz.nils | exact Frz.whole rfl rfl rfl rfl (by first | exact em_len _ _ | (rw [em_len]; omega) | (rw [em_len, List.length_append]))) (Frz.aggc (by first | exact Frz.pure rfl | exact Frz.nils | exact Frz.whole rfl rfl rfl rfl (by first | exact em_len _ _ | (rw [em_len]; omega) | (rw [em_len, List.length_append]))) (Frz.aggc (by first | exact Frz.pure rfl | exact Frz.nils | exact Frz.whole rfl rfl rfl rfl (by first | exact em_len _ _ | (rw [em_len]; omega) | (rw [em_len, List.length_append]))) Frz.aggn)))) Frz.aggn) (m0_ok) rfl rfl (fun _ => rfl) ?_
    refine GL.guardT rfl ?_
    first | refine GL.lenF I0.mono rfl rfl (em_len _ _) ?_ | refine GL.lenO I0.mono rfl rfl rfl rfl ?_ | refine GL.lenN I0.mono rfl rfl ?_
    refine GL.guardT rfl ?_
    refine GL.bin I0.mono (v := .bool true) (by kernel_rfl) ?_
    refine GL.pick I0.mono rfl (by conv => lhs; whnf) ?_
    refine GL.move I0.mono (by conv => lhs; whnf) ?_
    refine GL.guardT rfl ?_
    refine GL.call0 I0.mono rfl (Frz.aggn) (wakes07_ok) rfl rfl (fun _ => rfl) ?_
    refine GL.pick I0.mono rfl (by conv => lhs; whnf) ?_
    refine GL.assign I0.mono (by conv => lhs; whnf) ?_
    refine GL.doneF ?_
    refine goOn ?_
    refine Wp.retI ?_
    refine RetX.ret ?_
    refine ⟨_, _, _, _, .cons (.tmp rfl) .nil, .frz (.pure rfl), List.nodup_nil, by simp, ?_⟩
    rfl
  ·skip
   refine Wp.regI I0.mono ?_
   refine GL.move I0.mono (by conv => lhs; whnf) ?_
   refine GL.callSlo I0.mono (n := X.length) rfl (Frz.aggc (by first | exact Frz.pure rfl | exact Frz.pures rfl | exact Frz.nils | exact Frz.fn Frz.aggn | exact Frz.whole rfl rfl rfl rfl (by first | exact em_len _ _ | (rw [em_len]; omega) | (rw [em_len, List.length_append])) | exact (Frz.aggc (by first | exact Frz.pure rfl | exact Frz.nils | exact Frz.whole rfl rfl rfl rfl (by first | exact em_len _ _ | (rw [em_len]; omega) | (rw [em_len, List.length_append]))) (Frz.aggc (by first | exact Frz.pure rfl | exact Frz.nils | exact Frz.whole rfl rfl rfl rfl (by first | exact em_len _ _ | (rw [em_len]; omega) | (rw [em_len, List.length_append]))) (Frz.aggc (by first | exact Frz.pure rfl | exact Frz.nils | exact Frz.whole rfl rfl rfl rfl (by first | exact em_len _ _ | (rw [em_len]; omega) | (rw [em_len, List.length_append]))) Frz.aggn)))) (Frz.aggn)) (copy_ok X (by omega)) rfl (em_len _ _) ?_
   intro g21
   refine GL.move I0.mono (by conv => lhs; whnf) ?_
   refine GL.appendO I0.mono (f := ni) (l := X) (l2 := Y) (n2 := Y.length) (sz := 1) (z := [.int .i64 0]) rfl rfl rfl rfl rfl (by decide) (Nat.le_of_ble_eq_true rfl) rfl rfl rfl rfl rfl rfl rfl rfl rfl (fun _ => rfl) (fun _ => rfl) rfl hy0 (by omega) ?_
   refine GL.move I0.mono (by conv => lhs; whnf) ?_
   refine GL.buildS I0.mono (z := [LV.int .i64 0, LV.nils, LV.nils]) (cs := [_, _, _]) (n := 3) rfl rfl rfl (EvS.cons (by conv => lhs; whnf) (EvS.cons (by conv => lhs; whnf) (EvS.cons (by conv => lhs; whnf) (EvS.nil)))) rfl rfl ?_
   refine GL.move I0.mono (by conv => lhs; whnf) ?_
   refine GL.move I0.mono (by conv => lhs; whnf) ?_
   refine GL.buildS I0.mono (z := [LV.int .i64 0, LV.nils, LV.nils]) (cs := [_, _, _]) (n := 3) rfl rfl rfl (EvS.cons (by conv => lhs; whnf) (EvS.cons (by conv => lhs; whnf) (EvS.cons (by conv => lhs; whnf) (EvS.nil)))) rfl rfl ?_
   refine GL.buildSliceM I0.mono (sz := 3) (z := [.int .i64 0, .nils, .nils]) (es := em kt [⟨0, X ++ Y, Z⟩, ⟨1, Z, X⟩]) rfl rfl rfl rfl (by decide) (by decide) (by decide) (FrzP.cons (Frz.aggc (by first | exact Frz.pure rfl | exact Frz.nils | exact Frz.whole rfl rfl rfl rfl (by first | exact em_len _ _ | (rw [em_len]; omega) | (rw [em_len, List.length_append]))) (Frz.aggc (by first | exact Frz.pure rfl | exact Frz.nils | exact Frz.whole rfl rfl rfl rfl (by first | exact em_len _ _ | (rw [em_len]; omega) | (rw [em_len, List.length_append]))) (Frz.aggc (by first | exact Frz.pure rfl | exact Frz.nils | exact Frz.whole rfl rfl rfl rfl (by first | exact em_len _ _ | (rw [em_len]; omega) | (rw [em_len, List.length_append]))) Frz.aggn))) rfl (by decide) rfl (FrzP.cons (Frz.aggc (by first | exact Frz.pure rfl | exact Frz.nils | exact Frz.whole rfl rfl rfl rfl (by first | exact em_len _ _ | (rw [em_len]; omega) | (rw [em_len, List.length_append]))) (Frz.aggc (by first | exact Frz.pure rfl | exact Frz.nils | exact Frz.whole rfl rfl rfl rfl (by first | exact em_len _ _ | (rw [em_len]; omega) | (rw [em_len, List.length_append]))) (Frz.aggc (by first | exact Frz.pure rfl | exact Frz.nils | exact Frz.whole rfl rfl rfl rfl (by first | exact em_len _ _ | (rw [em_len]; omega) | (rw [em_len, List.length_append]))) Frz.aggn))) rfl (by decide) rfl (FrzP.nil))) rfl rfl ?_
   intro g29
   refine GL.buildS I0.mono (z := [LV.nils, LV.nils, LV.nils]) (cs := [_, _, _]) (n := 3) rfl rfl rfl (EvS.cons (by conv => lhs; whnf) (EvS.nil)) rfl rfl ?_
   refine GL.alloc I0.mono (cs := [LV.nils, LV.nils, LV.nils]) rfl rfl ?_
   intro g10
   first | refine GL.storeW I0.mono (n := 3) rfl rfl rfl rfl rfl rfl rfl (by conv => lhs; whnf) rfl rfl rfl ?_ | refine GL.store I0.mono (n := 3) rfl rfl rfl rfl rfl rfl rfl rfl rfl rfl (Nat.le_of_ble_eq_true rfl) (by first | (conv => lhs; simp only [List.take_succ_cons, List.take_zero, List.drop_succ_cons, List.drop_zero, List.nil_append, List.cons_append, List.drop_nil, List.append_nil, List.take_nil, List.set_cons_zero, List.set_cons_succ, Nat.zero_add, ni, nr, nc, ns, np, ic, nt, ei, cellsL]) | rfl) (by first | (conv => lhs; simp only [List.take_succ_cons, List.take_zero, List.drop_succ_cons, List.drop_zero, List.nil_append, List.cons_append, List.drop_nil, List.append_nil, List.take_nil, List.set_cons_zero, List.set_cons_succ, Nat.zero_add, ni, nr, nc, ns, np, ic, nt, ei, cellsL]) | rfl) ?_
   refine GL.doneF ?_
   refine goWeak (Weak.mark _ _ [1856]) ?_
   refine Wp.seqI ?_
   refine Wp.regI I0.mono ?_
   refine GL.move I0.mono (by conv => lhs; whnf) ?_
   refine GL.assign I0.mono (by conv => lhs; whnf) ?_
   refine GL.doneF ?_
   refine goOn ?_
   refine Wp.seqI ?_
   refine Wp.seqI ?_
   refine Wp.regI I0.mono ?_
   refine GL.assign I0.mono (by conv => lhs; whnf) ?_
   refine GL.doneF ?_
   refine goOn ?_
   refine Wp.blockI ?_
   refine Wp.loopI I0.mono (α := Nat × List Int) (fun ⟨k, w⟩ st => (Bub Y w k 0) ∧ ∃ m0, st = ⟨(updS (updS (updS (fun _ => LV.undef) 10 (.ref 640 g10 0 0)) 11 (.sl (em ni w))) 12 (.int .i64 (k : Int))), effM m0 [(640, ⟨g10, false, .var, 3, [[.own 1856 g29 0 2 none, .nils, .nils]]⟩), (1856, ⟨g29, true, .slc, 3, em kt [⟨0, X ++ Y, Z⟩, ⟨1, Z, X⟩]⟩)]⟩) (fun ⟨k, w⟩ => Y.length - k) ⟨0, Y⟩ ⟨_, (LessS.weak (LessS.upd (LessS.upd (LessS.upd (LessS.nil _) rfl) rfl) rfl) _), Bub.init Y, _, (congrArg (St.mk _) (effM_eq (Has.cons rfl (Has.cons rfl Has.nil))).symm)⟩ ?_
   rintro ⟨k, w⟩ _ ⟨hB, m0, rfl⟩
   have hwl := hB.len
   refine Wp.seqI ?_
   refine Wp.seqI ?_
   refine Wp.regI I0.mono ?_
   refine GL.move I0.mono (by conv => lhs; whnf) ?_
   refine GL.move I0.mono (by conv => lhs; whnf) ?_
   first | refine GL.lenF I0.mono rfl rfl (em_len _ _) ?_ | refine GL.lenO I0.mono rfl rfl rfl rfl ?_ | refine GL.lenN I0.mono rfl rfl ?_
   refine GL.bin I0.mono rfl ?_
   refine GL.doneF ?_
   refine goOn ?_
   refine Wp.condI rfl (fun h35 => ?_) (fun h35 => ?_)
   ·first | replace h35 := of_decide_eq_true h35 | replace h35 := bne_true h35 | skip
    refine Wp.skipI ?_
    refine goOn ?_
    refine Wp.seqI ?_
    refine Wp.blockI ?_
    refine Wp.seqI ?_
    refine Wp.regI I0.mono ?_
    refine GL.assign I0.mono (by conv => lhs; whnf) ?_
    refine GL.doneF ?_
    refine goOn ?_
    refine Wp.blockI ?_
    refine Wp.loopI I0.mono (α := Nat × List Int) (fun ⟨j, w2⟩ st => (Bub Y w2 k j ∧ (j = 0 ∨ j < w2.length)) ∧ ∃ m0, st = ⟨(updS (updS (updS (updS (fun _ => LV.undef) 10 (.ref 640 g10 0 0)) 11 (.sl (em ni w2))) 12 (.int .i64 (k : Int))) 13 (.int .i64 (j : Int))), effM m0 [(640, ⟨g10, false, .var, 3, [[.own 1856 g29 0 2 none, .nils, .nils]]⟩), (1856, ⟨g29, true, .slc, 3, em kt [⟨0, X ++ Y, Z⟩, ⟨1, Z, X⟩]⟩)]⟩) (fun ⟨j, w2⟩ => Y.length - j) ⟨0, w⟩ ⟨_, (LessS.weak (LessS.upd (LessS.upd (LessS.upd (LessS.upd (LessS.nil _) rfl) rfl) rfl) rfl) _), ⟨hB, .inl rfl⟩, _, (congrArg (St.mk _) (effM_eq (Has.cons rfl (Has.cons rfl Has.nil))).symm)⟩ ?_
    rintro ⟨j, w2⟩ _ ⟨⟨hB2, hj⟩, m0, rfl⟩
    have hwl2 := hB2.len
    refine Wp.seqI ?_
    refine Wp.seqI ?_
    refine Wp.regI I0.mono ?_
    refine GL.move I0.mono (by conv => lhs; whnf) ?_
    first | refine GL.addR I0.mono rfl rfl (by first | omega | assumption) ?_ | refine GL.bin I0.mono rfl ?_
    refine GL.move I0.mono (by conv => lhs; whnf) ?_
    first | refine GL.lenF I0.mono rfl rfl (em_len _ _) ?_ | refine GL.lenO I0.mono rfl rfl rfl rfl ?_ | refine GL.lenN I0.mono rfl rfl ?_
    refine GL.bin I0.mono rfl ?_
    refine GL.doneF ?_
    refine goOn ?_
    refine Wp.condI rfl (fun h42 => ?_) (fun h42 => ?_)
    ·first | replace h42 := of_decide_eq_true h42 | replace h42 := bne_true h42 | skip
     refine Wp.skipI ?_
     refine goOn ?_
     refine Wp.seqI ?_
     refine Wp.blockI ?_
     refine Wp.seqI ?_
     refine Wp.regD ?_
     refine GL.move I0.mono (by conv => lhs; whnf) ?_
     refine GL.move I0.mono (by conv => lhs; whnf) ?_
     first | refine GL.indexAddrF I0.mono (sz := 1) rfl rfl rfl rfl (by omega) (by first | omega | (rw [em_len]; omega)) (by intro e he; obtain ⟨a, -, rfl⟩ := List.mem_map.1 he; rfl) (by first | with_reducible exact Int.toNat_natCast _ | rfl) ?_ | refine GL.indexAddr I0.mono (sz := 1) rfl rfl rfl rfl rfl rfl rfl rfl (by omega) (by first | omega | (rw [em_len]; omega)) (by first | (conv => lhs; simp only [Nat.zero_add, Int.toNat_natCast]) | rfl) ?_
     first | refine GL.load I0.mono rfl rfl rfl rfl (by simp) rfl rfl ?_ | refine GL.loadF I0.mono rfl rfl (em_get (by omega)) rfl ?_
     refine GL.move I0.mono (by conv => lhs; whnf) ?_
     refine GL.move I0.mono (by conv => lhs; whnf) ?_
     first | refine GL.addR I0.mono rfl rfl (by first | omega | assumption) ?_ | refine GL.bin I0.mono rfl ?_
     refine GL.indexAddrF I0.mono (sz := 1) (j := j + 1) rfl rfl rfl rfl (by omega) (by rw [em_len]; omega) (by intro e he; obtain ⟨a, -, rfl⟩ := List.mem_map.1 he; rfl) (by omega) ?_
     first | refine GL.load I0.mono rfl rfl rfl rfl (by simp) rfl rfl ?_ | refine GL.loadF I0.mono rfl rfl (em_get (by omega)) rfl ?_
     refine GL.bin I0.mono rfl ?_
     refine GL.doneT (by kernel_rfl) ?_
     refine goOn ?_
     refine Wp.condI rfl (fun h54 => ?_) (fun h54 => ?_)
     ·first | replace h54 := of_decide_eq_true h54 | replace h54 := bne_true h54 | skip
      rcases Nat.eq_zero_or_pos j with hj0 | hj0
      ·skip
       rcases Nat.lt_or_ge (j + 2) w2.length with hd0 | hd0
       ·skip
        refine Wp.regD ?_
        refine GL.move I0.mono (by conv => lhs; whnf) ?_
        refine GL.move I0.mono (by conv => lhs; whnf) ?_
        refine GL.sliceTo I0.mono (sz := 1) rfl rfl rfl rfl (by intro e he; obtain ⟨a, -, rfl⟩ := List.mem_map.1 he; rfl) (by omega) (by omega) (by first | with_reducible exact Int.toNat_natCast _ | rfl) ?_
        refine GL.appendNil I0.mono rfl rfl rfl rfl (show LV.sl (em ni (w2.take j)) = .sl [] by rw [hj0]; rfl) ?_
        refine GL.move I0.mono (by conv => lhs; whnf) ?_
        refine GL.move I0.mono (by conv => lhs; whnf) ?_
        first | refine GL.addR I0.mono rfl rfl (by first | omega | assumption) ?_ | refine GL.bin I0.mono rfl ?_
        refine GL.indexAddrF I0.mono (sz := 1) (j := j + 1) rfl rfl rfl rfl (by omega) (by rw [em_len]; omega) (by intro e he; obtain ⟨a, -, rfl⟩ := List.mem_map.1 he; rfl) (by omega) ?_
        first | refine GL.load I0.mono rfl rfl rfl rfl (by simp) rfl rfl ?_ | refine GL.loadF I0.mono rfl rfl (em_get (by omega)) rfl ?_
        refine GL.move I0.mono (by conv => lhs; whnf) ?_
        refine GL.move I0.mono (by conv => lhs; whnf) ?_
        first | refine GL.indexAddrF I0.mono (sz := 1) rfl rfl rfl rfl (by omega) (by first | omega | (rw [em_len]; omega)) (by intro e he; obtain ⟨a, -, rfl⟩ := List.mem_map.1 he; rfl) (by first | with_reducible exact Int.toNat_natCast _ | rfl) ?_ | refine GL.indexAddr I0.mono (sz := 1) rfl rfl rfl rfl rfl rfl rfl rfl (by omega) (by first | omega | (rw [em_len]; omega)) (by first | (conv => lhs; simp only [Nat.zero_add, Int.toNat_natCast]) | rfl) ?_
        first | refine GL.load I0.mono rfl rfl rfl rfl (by simp) rfl rfl ?_ | refine GL.loadF I0.mono rfl rfl (em_get (by omega)) rfl ?_
        refine GL.buildSlice0 I0.mono (sz := 1) (z := [LV.int .i64 0]) (es := em ni [w2.getD (j + 1) default, w2.getD j default]) rfl rfl rfl rfl (by decide) (by decide) (by decide) (FrzP.cons (S := []) (T := []) (Frz.aggc (S := []) (T := []) (Frz.pure rfl) Frz.aggn) rfl (by decide) rfl (FrzP.cons (S := []) (T := []) (Frz.aggc (S := []) (T := []) (Frz.pure rfl) Frz.aggn) rfl (by decide) rfl (FrzP.nil))) rfl ?_
        intro g68
        refine GL.appendN I0.mono (es := em ni [w2.getD (j + 1) default, w2.getD j default]) (n := 2) rfl rfl rfl rfl rfl (by decide) (Nat.le_of_ble_eq_true rfl) rfl (SrcR.own (b := 4352) (g := g68) (x := ⟨g68, false, .slc, 1, em ni [w2.getD (j + 1) default, w2.getD j default]⟩) (off := 0) (len := 2) (cap := none) rfl rfl rfl (Nat.le_refl _)) rfl (by decide) (em_one (fun _ => rfl) _) (by decide) ?_
        intro g69
        refine GL.move I0.mono (by conv => lhs; whnf) ?_
        refine GL.move I0.mono (by conv => lhs; whnf) ?_
        first | refine GL.addR I0.mono rfl rfl (by first | omega | assumption) ?_ | refine GL.bin I0.mono rfl ?_
        refine GL.sliceFrom I0.mono (sz := 1) (j := j + 2) rfl rfl rfl rfl (by intro e he; obtain ⟨a, -, rfl⟩ := List.mem_map.1 he; rfl) (by omega) (by omega) (by omega) ?_
        refine GL.appendO I0.mono (f := ni) (l := [w2.getD (j + 1) default, w2.getD j default]) (l2 := w2.drop (j + 2)) (n2 := (w2.drop (j + 2)).length) (sz := 1) (z := [.int .i64 0]) rfl rfl rfl rfl rfl (by decide) (Nat.le_of_ble_eq_true rfl) rfl rfl rfl rfl rfl rfl rfl rfl rfl (fun _ => rfl) (fun _ => rfl) rfl (by rw [List.length_drop]; omega) (by rw [List.length_drop]; first | omega | (rw [List.length_take]; omega)) ?_
        refine GL.assign I0.mono (by conv => lhs; whnf) ?_
        refine GL.doneT (by kernel_rfl) ?_
        refine blockX.normal ?_
        refine goWeak (Weak.frzSlot (j := 11) (l := .sl (em ni (swapAt w2 j))) (by first | (rw [sw_ze hj0 hd0]; exact Frz.whole rfl rfl rfl rfl (by first | rfl | (simp only [em_len, List.length_append, List.length_cons, List.length_nil]; done) | (simp only [em_len, List.length_append, List.length_cons, List.length_nil]; omega))) | (rw [sw_zn hj0]; exact Frz.whole rfl rfl rfl rfl (by first | rfl | (simp only [em_len, List.length_append, List.length_cons, List.length_nil]; done) | (simp only [em_len, List.length_append, List.length_cons, List.length_nil]; omega))) | (rw [sw_pe hd0]; exact Frz.whole rfl rfl rfl rfl (by first | rfl | (simp only [em_len, List.length_append, List.length_cons, List.length_nil]; done) | (simp only [em_len, List.length_append, List.length_cons, List.length_nil]; omega))) | (rw [swapAt]; exact Frz.whole rfl rfl rfl rfl (by first | rfl | (simp only [em_len, List.length_append, List.length_cons, List.length_nil]; done) | (simp only [em_len, List.length_append, List.length_cons, List.length_nil]; omega))))) ?_
        refine Wp.regI I0.mono ?_
        refine GL.move I0.mono (by conv => lhs; whnf) ?_
        first | refine GL.addR I0.mono rfl rfl (by first | omega | assumption) ?_ | refine GL.bin I0.mono rfl ?_
        refine GL.assign I0.mono (by conv => lhs; whnf) ?_
        refine GL.doneF ?_
        first
        | refine ⟨⟨j + 1, w2⟩, (by dsimp only; omega), _, (LessS.weak (LessS.upd (LessS.upd (LessS.upd (LessS.upd (LessS.nil _) rfl) rfl) rfl) rfl) _), ⟨hB2.keep (by omega) (by omega), .inr (by omega)⟩, _, (congrArg (St.mk _) (effM_eq (Has.cons rfl (Has.cons rfl Has.nil))).symm)⟩
        | refine ⟨⟨j + 1, swapAt w2 j⟩, (by dsimp only; omega), _, (LessS.weak (LessS.upd (LessS.upd (LessS.upd (LessS.upd (LessS.nil _) rfl) rfl) rfl) rfl) _), ⟨hB2.swap (by omega) (by omega), .inr (by rw [swapAt_len (by omega)]; omega)⟩, _, (congrArg (St.mk _) (effM_eq (Has.cons rfl (Has.cons rfl Has.nil))).symm)⟩
       ·skip
        refine Wp.regD ?_
        refine GL.move I0.mono (by conv => lhs; whnf) ?_
        refine GL.move I0.mono (by conv => lhs; whnf) ?_
        refine GL.sliceTo I0.mono (sz := 1) rfl rfl rfl rfl (by intro e he; obtain ⟨a, -, rfl⟩ := List.mem_map.1 he; rfl) (by omega) (by omega) (by first | with_reducible exact Int.toNat_natCast _ | rfl) ?_
        refine GL.appendNil I0.mono rfl rfl rfl rfl (show LV.sl (em ni (w2.take j)) = .sl [] by rw [hj0]; rfl) ?_
        refine GL.move I0.mono (by conv => lhs; whnf) ?_
        refine GL.move I0.mono (by conv => lhs; whnf) ?_
        first | refine GL.addR I0.mono rfl rfl (by first | omega | assumption) ?_ | refine GL.bin I0.mono rfl ?_
        refine GL.indexAddrF I0.mono (sz := 1) (j := j + 1) rfl rfl rfl rfl (by omega) (by rw [em_len]; omega) (by intro e he; obtain ⟨a, -, rfl⟩ := List.mem_map.1 he; rfl) (by omega) ?_
        first | refine GL.load I0.mono rfl rfl rfl rfl (by simp) rfl rfl ?_ | refine GL.loadF I0.mono rfl rfl (em_get (by omega)) rfl ?_
        refine GL.move I0.mono (by conv => lhs; whnf) ?_
        refine GL.move I0.mono (by conv => lhs; whnf) ?_
        first | refine GL.indexAddrF I0.mono (sz := 1) rfl rfl rfl rfl (by omega) (by first | omega | (rw [em_len]; omega)) (by intro e he; obtain ⟨a, -, rfl⟩ := List.mem_map.1 he; rfl) (by first | with_reducible exact Int.toNat_natCast _ | rfl) ?_ | refine GL.indexAddr I0.mono (sz := 1) rfl rfl rfl rfl rfl rfl rfl rfl (by omega) (by first | omega | (rw [em_len]; omega)) (by first | (conv => lhs; simp only [Nat.zero_add, Int.toNat_natCast]) | rfl) ?_
        first | refine GL.load I0.mono rfl rfl rfl rfl (by simp) rfl rfl ?_ | refine GL.loadF I0.mono rfl rfl (em_get (by omega)) rfl ?_
        refine GL.buildSlice0 I0.mono (sz := 1) (z := [LV.int .i64 0]) (es := em ni [w2.getD (j + 1) default, w2.getD j default]) rfl rfl rfl rfl (by decide) (by decide) (by decide) (FrzP.cons (S := []) (T := []) (Frz.aggc (S := []) (T := []) (Frz.pure rfl) Frz.aggn) rfl (by decide) rfl (FrzP.cons (S := []) (T := []) (Frz.aggc (S := []) (T := []) (Frz.pure rfl) Frz.aggn) rfl (by decide) rfl (FrzP.nil))) rfl ?_
        intro g68
        refine GL.appendN I0.mono (es := em ni [w2.getD (j + 1) default, w2.getD j default]) (n := 2) rfl rfl rfl rfl rfl (by decide) (Nat.le_of_ble_eq_true rfl) rfl (SrcR.own (b := 4352) (g := g68) (x := ⟨g68, false, .slc, 1, em ni [w2.getD (j + 1) default, w2.getD j default]⟩) (off := 0) (len := 2) (cap := none) rfl rfl rfl (Nat.le_refl _)) rfl (by decide) (em_one (fun _ => rfl) _) (by decide) ?_
        intro g69
        refine GL.move I0.mono (by conv => lhs; whnf) ?_
        refine GL.move I0.mono (by conv => lhs; whnf) ?_
        first | refine GL.addR I0.mono rfl rfl (by first | omega | assumption) ?_ | refine GL.bin I0.mono rfl ?_
        refine GL.sliceFrom I0.mono (sz := 1) (j := j + 2) rfl rfl rfl rfl (by intro e he; obtain ⟨a, -, rfl⟩ := List.mem_map.1 he; rfl) (by omega) (by omega) (by omega) ?_
        refine GL.appendE I0.mono rfl rfl rfl rfl rfl rfl (show LV.sl (em ni (w2.drop (j + 2))) = .sl [] by rw [List.drop_of_length_le hd0]; rfl) ?_
        refine GL.assign I0.mono (by conv => lhs; whnf) ?_
        refine GL.doneT (by kernel_rfl) ?_
        refine blockX.normal ?_
        refine goWeak (Weak.frzSlot (j := 11) (l := .sl (em ni (swapAt w2 j))) (by first | (rw [sw_ze hj0 hd0]; exact Frz.whole rfl rfl rfl rfl (by first | rfl | (simp only [em_len, List.length_append, List.length_cons, List.length_nil]; done) | (simp only [em_len, List.length_append, List.length_cons, List.length_nil]; omega))) | (rw [sw_zn hj0]; exact Frz.whole rfl rfl rfl rfl (by first | rfl | (simp only [em_len, List.length_append, List.length_cons, List.length_nil]; done) | (simp only [em_len, List.length_append, List.length_cons, List.length_nil]; omega))) | (rw [sw_pe hd0]; exact Frz.whole rfl rfl rfl rfl (by first | rfl | (simp only [em_len, List.length_append, List.length_cons, List.length_nil]; done) | (simp only [em_len, List.length_append, List.length_cons, List.length_nil]; omega))) | (rw [swapAt]; exact Frz.whole rfl rfl rfl rfl (by first | rfl | (simp only [em_len, List.length_append, List.length_cons, List.length_nil]; done) | (simp only [em_len, List.length_append, List.length_cons, List.length_nil]; omega))))) ?_
        refine Wp.regI I0.mono ?_
        refine GL.move I0.mono (by conv => lhs; whnf) ?_
        first | refine GL.addR I0.mono rfl rfl (by first | omega | assumption) ?_ | refine GL.bin I0.mono rfl ?_
        refine GL.assign I0.mono (by conv => lhs; whnf) ?_
        refine GL.doneF ?_
        first
        | refine ⟨⟨j + 1, w2⟩, (by dsimp only; omega), _, (LessS.weak (LessS.upd (LessS.upd (LessS.upd (LessS.upd (LessS.nil _) rfl) rfl) rfl) rfl) _), ⟨hB2.keep (by omega) (by omega), .inr (by omega)⟩, _, (congrArg (St.mk _) (effM_eq (Has.cons rfl (Has.cons rfl Has.nil))).symm)⟩
        | refine ⟨⟨j + 1, swapAt w2 j⟩, (by dsimp only; omega), _, (LessS.weak (LessS.upd (LessS.upd (LessS.upd (LessS.upd (LessS.nil _) rfl) rfl) rfl) rfl) _), ⟨hB2.swap (by omega) (by omega), .inr (by rw [swapAt_len (by omega)]; omega)⟩, _, (congrArg (St.mk _) (effM_eq (Has.cons rfl (Has.cons rfl Has.nil))).symm)⟩
      ·skip
       rcases Nat.lt_or_ge (j + 2) w2.length with hd0 | hd0
       ·skip
        refine Wp.regD ?_
        refine GL.move I0.mono (by conv => lhs; whnf) ?_
        refine GL.move I0.mono (by conv => lhs; whnf) ?_
        refine GL.sliceTo I0.mono (sz := 1) rfl rfl rfl rfl (by intro e he; obtain ⟨a, -, rfl⟩ := List.mem_map.1 he; rfl) (by omega) (by omega) (by first | with_reducible exact Int.toNat_natCast _ | rfl) ?_
        refine GL.appendSl I0.mono (f := ni) (l := w2.take j) (sz := 1) (z := [.int .i64 0]) rfl rfl rfl rfl rfl (by decide) (Nat.le_of_ble_eq_true rfl) rfl rfl (fun _ => rfl) (fun _ => rfl) (by rw [List.length_take]; omega) (by rw [List.length_take]; omega) ?_
        intro g58
        refine GL.move I0.mono (by conv => lhs; whnf) ?_
        refine GL.move I0.mono (by conv => lhs; whnf) ?_
        first | refine GL.addR I0.mono rfl rfl (by first | omega | assumption) ?_ | refine GL.bin I0.mono rfl ?_
        refine GL.indexAddrF I0.mono (sz := 1) (j := j + 1) rfl rfl rfl rfl (by omega) (by rw [em_len]; omega) (by intro e he; obtain ⟨a, -, rfl⟩ := List.mem_map.1 he; rfl) (by omega) ?_
        first | refine GL.load I0.mono rfl rfl rfl rfl (by simp) rfl rfl ?_ | refine GL.loadF I0.mono rfl rfl (em_get (by omega)) rfl ?_
        refine GL.move I0.mono (by conv => lhs; whnf) ?_
        refine GL.move I0.mono (by conv => lhs; whnf) ?_
        first | refine GL.indexAddrF I0.mono (sz := 1) rfl rfl rfl rfl (by omega) (by first | omega | (rw [em_len]; omega)) (by intro e he; obtain ⟨a, -, rfl⟩ := List.mem_map.1 he; rfl) (by first | with_reducible exact Int.toNat_natCast _ | rfl) ?_ | refine GL.indexAddr I0.mono (sz := 1) rfl rfl rfl rfl rfl rfl rfl rfl (by omega) (by first | omega | (rw [em_len]; omega)) (by first | (conv => lhs; simp only [Nat.zero_add, Int.toNat_natCast]) | rfl) ?_
        first | refine GL.load I0.mono rfl rfl rfl rfl (by simp) rfl rfl ?_ | refine GL.loadF I0.mono rfl rfl (em_get (by omega)) rfl ?_
        refine GL.buildSlice0 I0.mono (sz := 1) (z := [LV.int .i64 0]) (es := em ni [w2.getD (j + 1) default, w2.getD j default]) rfl rfl rfl rfl (by decide) (by decide) (by decide) (FrzP.cons (S := []) (T := []) (Frz.aggc (S := []) (T := []) (Frz.pure rfl) Frz.aggn) rfl (by decide) rfl (FrzP.cons (S := []) (T := []) (Frz.aggc (S := []) (T := []) (Frz.pure rfl) Frz.aggn) rfl (by decide) rfl (FrzP.nil))) rfl ?_
        intro g68
        refine GL.append I0.mono (n := (w2.take j).length + 2) (es := em ni [w2.getD (j + 1) default, w2.getD j default]) (es' := em ni (w2.take j ++ [w2.getD (j + 1) default, w2.getD j default])) rfl rfl rfl rfl rfl (by decide) (Nat.le_of_ble_eq_true rfl) rfl rfl rfl rfl rfl rfl (by rw [em_len]; omega) (SrcR.own (b := 4352) (g := g68) (x := ⟨g68, false, .slc, 1, em ni [w2.getD (j + 1) default, w2.getD j default]⟩) (off := 0) (len := 2) (cap := none) rfl rfl rfl (Nat.le_refl _)) (by decide) (by simp [em]) (em_one (fun _ => rfl) _) rfl (by show _ + 2 ≤ _; rw [List.length_take]; omega) (by simp [em]) ?_
        refine GL.move I0.mono (by conv => lhs; whnf) ?_
        refine GL.move I0.mono (by conv => lhs; whnf) ?_
        first | refine GL.addR I0.mono rfl rfl (by first | omega | assumption) ?_ | refine GL.bin I0.mono rfl ?_
        refine GL.sliceFrom I0.mono (sz := 1) (j := j + 2) rfl rfl rfl rfl (by intro e he; obtain ⟨a, -, rfl⟩ := List.mem_map.1 he; rfl) (by omega) (by omega) (by omega) ?_
        refine GL.appendO I0.mono (f := ni) (l := w2.take j ++ [w2.getD (j + 1) default, w2.getD j default]) (l2 := w2.drop (j + 2)) (n2 := (w2.drop (j + 2)).length) (sz := 1) (z := [.int .i64 0]) rfl rfl rfl rfl rfl (by decide) (Nat.le_of_ble_eq_true rfl) rfl rfl rfl rfl rfl rfl rfl (by rw [List.length_append]; rfl) rfl (fun _ => rfl) (fun _ => rfl) rfl (by rw [List.length_drop]; omega) (by rw [List.length_drop]; first | omega | (rw [List.length_take]; omega)) ?_
        refine GL.assign I0.mono (by conv => lhs; whnf) ?_
        refine GL.doneT (by kernel_rfl) ?_
        refine blockX.normal ?_
        refine goWeak (Weak.frzSlot (j := 11) (l := .sl (em ni (swapAt w2 j))) (by first | (rw [sw_ze hj0 hd0]; exact Frz.whole rfl rfl rfl rfl (by first | rfl | (simp only [em_len, List.length_append, List.length_cons, List.length_nil]; done) | (simp only [em_len, List.length_append, List.length_cons, List.length_nil]; omega))) | (rw [sw_zn hj0]; exact Frz.whole rfl rfl rfl rfl (by first | rfl | (simp only [em_len, List.length_append, List.length_cons, List.length_nil]; done) | (simp only [em_len, List.length_append, List.length_cons, List.length_nil]; omega))) | (rw [sw_pe hd0]; exact Frz.whole rfl rfl rfl rfl (by first | rfl | (simp only [em_len, List.length_append, List.length_cons, List.length_nil]; done) | (simp only [em_len, List.length_append, List.length_cons, List.length_nil]; omega))) | (rw [swapAt]; exact Frz.whole rfl rfl rfl rfl (by first | rfl | (simp only [em_len, List.length_append, List.length_cons, List.length_nil]; done) | (simp only [em_len, List.length_append, List.length_cons, List.length_nil]; omega))))) ?_
        refine Wp.regI I0.mono ?_
        refine GL.move I0.mono (by conv => lhs; whnf) ?_
        first | refine GL.addR I0.mono rfl rfl (by first | omega | assumption) ?_ | refine GL.bin I0.mono rfl ?_
        refine GL.assign I0.mono (by conv => lhs; whnf) ?_
        refine GL.doneF ?_
        first
        | refine ⟨⟨j + 1, w2⟩, (by dsimp only; omega), _, (LessS.weak (LessS.upd (LessS.upd (LessS.upd (LessS.upd (LessS.nil _) rfl) rfl) rfl) rfl) _), ⟨hB2.keep (by omega) (by omega), .inr (by omega)⟩, _, (congrArg (St.mk _) (effM_eq (Has.cons rfl (Has.cons rfl Has.nil))).symm)⟩
        | refine ⟨⟨j + 1, swapAt w2 j⟩, (by dsimp only; omega), _, (LessS.weak (LessS.upd (LessS.upd (LessS.upd (LessS.upd (LessS.nil _) rfl) rfl) rfl) rfl) _), ⟨hB2.swap (by omega) (by omega), .inr (by rw [swapAt_len (by omega)]; omega)⟩, _, (congrArg (St.mk _) (effM_eq (Has.cons rfl (Has.cons rfl Has.nil))).symm)⟩
       ·skip
        refine Wp.regD ?_
        refine GL.move I0.mono (by conv => lhs; whnf) ?_
        refine GL.move I0.mono (by conv => lhs; whnf) ?_
        refine GL.sliceTo I0.mono (sz := 1) rfl rfl rfl rfl (by intro e he; obtain ⟨a, -, rfl⟩ := List.mem_map.1 he; rfl) (by omega) (by omega) (by first | with_reducible exact Int.toNat_natCast _ | rfl) ?_
        refine GL.appendSl I0.mono (f := ni) (l := w2.take j) (sz := 1) (z := [.int .i64 0]) rfl rfl rfl rfl rfl (by decide) (Nat.le_of_ble_eq_true rfl) rfl rfl (fun _ => rfl) (fun _ => rfl) (by rw [List.length_take]; omega) (by rw [List.length_take]; omega) ?_
        intro g58
        refine GL.move I0.mono (by conv => lhs; whnf) ?_
        refine GL.move I0.mono (by conv => lhs; whnf) ?_
        first | refine GL.addR I0.mono rfl rfl (by first | omega | assumption) ?_ | refine GL.bin I0.mono rfl ?_
        refine GL.indexAddrF I0.mono (sz := 1) (j := j + 1) rfl rfl rfl rfl (by omega) (by rw [em_len]; omega) (by intro e he; obtain ⟨a, -, rfl⟩ := List.mem_map.1 he; rfl) (by omega) ?_
        first | refine GL.load I0.mono rfl rfl rfl rfl (by simp) rfl rfl ?_ | refine GL.loadF I0.mono rfl rfl (em_get (by omega)) rfl ?_
        refine GL.move I0.mono (by conv => lhs; whnf) ?_
        refine GL.move I0.mono (by conv => lhs; whnf) ?_
        first | refine GL.indexAddrF I0.mono (sz := 1) rfl rfl rfl rfl (by omega) (by first | omega | (rw [em_len]; omega)) (by intro e he; obtain ⟨a, -, rfl⟩ := List.mem_map.1 he; rfl) (by first | with_reducible exact Int.toNat_natCast _ | rfl) ?_ | refine GL.indexAddr I0.mono (sz := 1) rfl rfl rfl rfl rfl rfl rfl rfl (by omega) (by first | omega | (rw [em_len]; omega)) (by first | (conv => lhs; simp only [Nat.zero_add, Int.toNat_natCast]) | rfl) ?_
        first | refine GL.load I0.mono rfl rfl rfl rfl (by simp) rfl rfl ?_ | refine GL.loadF I0.mono rfl rfl (em_get (by omega)) rfl ?_
        refine GL.buildSlice0 I0.mono (sz := 1) (z := [LV.int .i64 0]) (es := em ni [w2.getD (j + 1) default, w2.getD j default]) rfl rfl rfl rfl (by decide) (by decide) (by decide) (FrzP.cons (S := []) (T := []) (Frz.aggc (S := []) (T := []) (Frz.pure rfl) Frz.aggn) rfl (by decide) rfl (FrzP.cons (S := []) (T := []) (Frz.aggc (S := []) (T := []) (Frz.pure rfl) Frz.aggn) rfl (by decide) rfl (FrzP.nil))) rfl ?_
        intro g68
        refine GL.append I0.mono (n := (w2.take j).length + 2) (es := em ni [w2.getD (j + 1) default, w2.getD j default]) (es' := em ni (w2.take j ++ [w2.getD (j + 1) default, w2.getD j default])) rfl rfl rfl rfl rfl (by decide) (Nat.le_of_ble_eq_true rfl) rfl rfl rfl rfl rfl rfl (by rw [em_len]; omega) (SrcR.own (b := 4352) (g := g68) (x := ⟨g68, false, .slc, 1, em ni [w2.getD (j + 1) default, w2.getD j default]⟩) (off := 0) (len := 2) (cap := none) rfl rfl rfl (Nat.le_refl _)) (by decide) (by simp [em]) (em_one (fun _ => rfl) _) rfl (by show _ + 2 ≤ _; rw [List.length_take]; omega) (by simp [em]) ?_
        refine GL.move I0.mono (by conv => lhs; whnf) ?_
        refine GL.move I0.mono (by conv => lhs; whnf) ?_
        first | refine GL.addR I0.mono rfl rfl (by first | omega | assumption) ?_ | refine GL.bin I0.mono rfl ?_
        refine GL.sliceFrom I0.mono (sz := 1) (j := j + 2) rfl rfl rfl rfl (by intro e he; obtain ⟨a, -, rfl⟩ := List.mem_map.1 he; rfl) (by omega) (by omega) (by omega) ?_
        refine GL.appendE I0.mono rfl rfl rfl rfl rfl rfl (show LV.sl (em ni (w2.drop (j + 2))) = .sl [] by rw [List.drop_of_length_le hd0]; rfl) ?_
        refine GL.assign I0.mono (by conv => lhs; whnf) ?_
        refine GL.doneT (by kernel_rfl) ?_
        refine blockX.normal ?_
        refine goWeak (Weak.frzSlot (j := 11) (l := .sl (em ni (swapAt w2 j))) (by first | (rw [sw_ze hj0 hd0]; exact Frz.whole rfl rfl rfl rfl (by first | rfl | (simp only [em_len, List.length_append, List.length_cons, List.length_nil]; done) | (simp only [em_len, List.length_append, List.length_cons, List.length_nil]; omega))) | (rw [sw_zn hj0]; exact Frz.whole rfl rfl rfl rfl (by first | rfl | (simp only [em_len, List.length_append, List.length_cons, List.length_nil]; done) | (simp only [em_len, List.length_append, List.length_cons, List.length_nil]; omega))) | (rw [sw_pe hd0]; exact Frz.whole rfl rfl rfl rfl (by first | rfl | (simp only [em_len, List.length_append, List.length_cons, List.length_nil]; done) | (simp only [em_len, List.length_append, List.length_cons, List.length_nil]; omega))) | (rw [swapAt]; exact Frz.whole rfl rfl rfl rfl (by first | rfl | (simp only [em_len, List.length_append, List.length_cons, List.length_nil]; done) | (simp only [em_len, List.length_append, List.length_cons, List.length_nil]; omega))))) ?_
        refine Wp.regI I0.mono ?_
        refine GL.move I0.mono (by conv => lhs; whnf) ?_
        first | refine GL.addR I0.mono rfl rfl (by first | omega | assumption) ?_ | refine GL.bin I0.mono rfl ?_
        refine GL.assign I0.mono (by conv => lhs; whnf) ?_
        refine GL.doneF ?_
        first
        | refine ⟨⟨j + 1, w2⟩, (by dsimp only; omega), _, (LessS.weak (LessS.upd (LessS.upd (LessS.upd (LessS.upd (LessS.nil _) rfl) rfl) rfl) rfl) _), ⟨hB2.keep (by omega) (by omega), .inr (by omega)⟩, _, (congrArg (St.mk _) (effM_eq (Has.cons rfl (Has.cons rfl Has.nil))).symm)⟩
        | refine ⟨⟨j + 1, swapAt w2 j⟩, (by dsimp only; omega), _, (LessS.weak (LessS.upd (LessS.upd (LessS.upd (LessS.upd (LessS.nil _) rfl) rfl) rfl) rfl) _), ⟨hB2.swap (by omega) (by omega), .inr (by rw [swapAt_len (by omega)]; omega)⟩, _, (congrArg (St.mk _) (effM_eq (Has.cons rfl (Has.cons rfl Has.nil))).symm)⟩
     ·first | replace h54 := of_decide_eq_false h54 | replace h54 := bne_false h54 | skip
      refine Wp.skipI ?_
      refine blockX.normal ?_
      refine goOn ?_
      refine Wp.regI I0.mono ?_
      refine GL.move I0.mono (by conv => lhs; whnf) ?_
      first | refine GL.addR I0.mono rfl rfl (by first | omega | assumption) ?_ | refine GL.bin I0.mono rfl ?_
      refine GL.assign I0.mono (by conv => lhs; whnf) ?_
      refine GL.doneF ?_
      first
      | refine ⟨⟨j + 1, w2⟩, (by dsimp only; omega), _, (LessS.weak (LessS.upd (LessS.upd (LessS.upd (LessS.upd (LessS.nil _) rfl) rfl) rfl) rfl) _), ⟨hB2.keep (by omega) (by omega), .inr (by omega)⟩, _, (congrArg (St.mk _) (effM_eq (Has.cons rfl (Has.cons rfl Has.nil))).symm)⟩
      | refine ⟨⟨j + 1, swapAt w2 j⟩, (by dsimp only; omega), _, (LessS.weak (LessS.upd (LessS.upd (LessS.upd (LessS.upd (LessS.nil _) rfl) rfl) rfl) rfl) _), ⟨hB2.swap (by omega) (by omega), .inr (by rw [swapAt_len (by omega)]; omega)⟩, _, (congrArg (St.mk _) (effM_eq (Has.cons rfl (Has.cons rfl Has.nil))).symm)⟩
    ·first | replace h42 := of_decide_eq_false h42 | replace h42 := bne_false h42 | skip
     refine Wp.exitI ?_
     refine thenX.exit ?_
     refine thenX.exit ?_
     refine blockX.out ?_
     refine blockX.normal ?_
     refine goOn ?_
     refine Wp.regI I0.mono ?_
     refine GL.move I0.mono (by conv => lhs; whnf) ?_
     first | refine GL.addR I0.mono rfl rfl (by first | omega | assumption) ?_ | refine GL.bin I0.mono rfl ?_
     refine GL.assign I0.mono (by conv => lhs; whnf) ?_
     refine GL.doneF ?_
     refine ⟨⟨k + 1, w2⟩, (by dsimp only; omega), _, (LessS.weak (LessS.upd (LessS.upd (LessS.upd (LessS.nil _) rfl) rfl) rfl) _), hB2.next (by omega) hj, _, (congrArg (St.mk _) (effM_eq (Has.cons rfl (Has.cons rfl Has.nil))).symm)⟩
   ·first | replace h35 := of_decide_eq_false h35 | replace h35 := bne_false h35 | skip
    have hws : w = sorted Y := hB.done (by omega)
    rw [hws]
    refine Wp.exitI ?_
    refine thenX.exit ?_
    refine thenX.exit ?_
    refine blockX.out ?_
    refine goOn ?_
    refine Wp.seqI ?_
    refine Wp.regI I0.mono ?_
    first | refine GL.loadW I0.mono (n := 3) rfl rfl rfl rfl (by simp) rfl rfl rfl ?_ | refine GL.loadFW I0.mono (n := 3) rfl rfl (em_get (by omega)) rfl rfl ?_ | refine GL.loadA I0.mono (n := 3) rfl rfl rfl rfl (by simp) rfl rfl (Nat.le_of_ble_eq_true rfl) (by first | (conv => lhs; simp only [List.take_succ_cons, List.take_zero, List.drop_succ_cons, List.drop_zero, List.nil_append, List.cons_append, List.drop_nil, List.append_nil, List.take_nil, List.set_cons_zero, List.set_cons_succ, Nat.zero_add, ni, nr, nc, ns, np, ic, nt, ei, cellsL]) | rfl) ?_ | refine GL.loadFA I0.mono (n := 3) rfl rfl (em_get (by omega)) rfl (Nat.le_of_ble_eq_true rfl) (by first | (conv => lhs; simp only [List.take_succ_cons, List.take_zero, List.drop_succ_cons, List.drop_zero, List.nil_append, List.cons_append, List.drop_nil, List.append_nil, List.take_nil, List.set_cons_zero, List.set_cons_succ, Nat.zero_add, ni, nr, nc, ns, np, ic, nt, ei, cellsL]) | rfl) ?_
    refine GL.call0 I0.mono rfl (Frz.aggc (by first | exact Frz.pures rfl | exact (Frz.aggc (by first | exact Frz.pure rfl | exact Frz.nils | exact Frz.whole rfl rfl rfl rfl (by first | exact em_len _ _ | (rw [em_len]; omega) | (rw [em_len, List.length_append]))) (Frz.aggc (by first | exact Frz.pure rfl | exact Frz.nils | exact Frz.whole rfl rfl rfl rfl (by first | exact em_len _ _ | (rw [em_len]; omega) | (rw [em_len, List.length_append]))) (Frz.aggc (by first | exact Frz.pure rfl | exact Frz.nils | exact Frz.whole rfl rfl rfl rfl (by first | exact em_len _ _ | (rw [em_len]; omega) | (rw [em_len, List.length_append]))) Frz.aggn)))) Frz.aggn) (hM1) rfl rfl (fun _ => rfl) ?_
    refine GL.move I0.mono (by conv => lhs; whnf) ?_
    refine GL.call0 I0.mono rfl (Frz.aggc (Frz.pure rfl) (Frz.aggc (Frz.pure rfl) Frz.aggn)) (sS_ok _ (by rw [Short, sorted_len]; omega)) rfl rfl (fun _ => rfl) ?_
    refine GL.move I0.mono (by conv => lhs; whnf) ?_
    refine GL.guardT rfl ?_
    first | refine GL.loadW I0.mono (n := 3) rfl rfl rfl rfl (by simp) rfl rfl rfl ?_ | refine GL.loadFW I0.mono (n := 3) rfl rfl (em_get (by omega)) rfl rfl ?_ | refine GL.loadA I0.mono (n := 3) rfl rfl rfl rfl (by simp) rfl rfl (Nat.le_of_ble_eq_true rfl) (by first | (conv => lhs; simp only [List.take_succ_cons, List.take_zero, List.drop_succ_cons, List.drop_zero, List.nil_append, List.cons_append, List.drop_nil, List.append_nil, List.take_nil, List.set_cons_zero, List.set_cons_succ, Nat.zero_add, ni, nr, nc, ns, np, ic, nt, ei, cellsL]) | rfl) ?_ | refine GL.loadFA I0.mono (n := 3) rfl rfl (em_get (by omega)) rfl (Nat.le_of_ble_eq_true rfl) (by first | (conv => lhs; simp only [List.take_succ_cons, List.take_zero, List.drop_succ_cons, List.drop_zero, List.nil_append, List.cons_append, List.drop_nil, List.append_nil, List.take_nil, List.set_cons_zero, List.set_cons_succ, Nat.zero_add, ni, nr, nc, ns, np, ic, nt, ei, cellsL]) | rfl) ?_
    refine GL.guardT rfl ?_
    refine GL.call0 I0.mono rfl (Frz.aggc (by first | exact Frz.pure rfl | exact Frz.pures rfl | exact Frz.nils | exact Frz.fn Frz.aggn | exact Frz.whole rfl rfl rfl rfl (by first | exact em_len _ _ | (rw [em_len]; omega) | (rw [em_len, List.length_append])) | exact (Frz.aggc (by first | exact Frz.pure rfl | exact Frz.nils | exact Frz.whole rfl rfl rfl rfl (by first | exact em_len _ _ | (rw [em_len]; omega) | (rw [em_len, List.length_append]))) (Frz.aggc (by first | exact Frz.pure rfl | exact Frz.nils | exact Frz.whole rfl rfl rfl rfl (by first | exact em_len _ _ | (rw [em_len]; omega) | (rw [em_len, List.length_append]))) (Frz.aggc (by first | exact Frz.pure rfl | exact Frz.nils | exact Frz.whole rfl rfl rfl rfl (by first | exact em_len _ _ | (rw [em_len]; omega) | (rw [em_len, List.length_append]))) Frz.aggn)))) (Frz.aggn)) (hI) rfl rfl (fun _ => rfl) ?_
    refine GL.guardT rfl ?_
    refine GL.call0 I0.mono rfl (Frz.aggc (by first | exact Frz.pure rfl | exact Frz.pures rfl | exact Frz.nils | exact Frz.fn Frz.aggn | exact Frz.whole rfl rfl rfl rfl (by first | exact em_len _ _ | (rw [em_len]; omega) | (rw [em_len, List.length_append])) | exact (Frz.aggc (by first | exact Frz.pure rfl | exact Frz.nils | exact Frz.whole rfl rfl rfl rfl (by first | exact em_len _ _ | (rw [em_len]; omega) | (rw [em_len, List.length_append]))) (Frz.aggc (by first | exact Frz.pure rfl | exact Frz.nils | exact Frz.whole rfl rfl rfl rfl (by first | exact em_len _ _ | (rw [em_len]; omega) | (rw [em_len, List.length_append]))) (Frz.aggc (by first | exact Frz.pure rfl | exact Frz.nils | exact Frz.whole rfl rfl rfl rfl (by first | exact em_len _ _ | (rw [em_len]; omega) | (rw [em_len, List.length_append]))) Frz.aggn)))) (Frz.aggn)) (hM2) rfl rfl (fun _ => rfl) ?_
    refine GL.guardT rfl ?_
    refine GL.move I0.mono (by conv => lhs; whnf) ?_
    refine GL.guardT rfl ?_
    refine GL.call0 I0.mono rfl (Frz.aggc (Frz.pure rfl) (Frz.aggc (Frz.pure rfl) Frz.aggn)) (sS_ok _ (by rw [Short, sorted_len]; omega)) rfl rfl (fun _ => rfl) ?_
    refine GL.pick I0.mono rfl (by conv => lhs; whnf) ?_
    refine GL.move I0.mono (by conv => lhs; whnf) ?_
    refine GL.guardT rfl ?_
    refine GL.buildS I0.mono (z := [LV.nils, LV.nils, LV.nils]) (cs := [_, _, _]) (n := 3) rfl rfl rfl (EvS.nil) rfl rfl ?_
    refine GL.guardT rfl ?_
    refine GL.call0 I0.mono rfl (Frz.aggc (by first | exact Frz.pures rfl | exact (Frz.aggc (by first | exact Frz.pure rfl | exact Frz.nils | exact Frz.whole rfl rfl rfl rfl (by first | exact em_len _ _ | (rw [em_len]; omega) | (rw [em_len, List.length_append]))) (Frz.aggc (by first | exact Frz.pure rfl | exact Frz.nils | exact Frz.whole rfl rfl rfl rfl (by first | exact em_len _ _ | (rw [em_len]; omega) | (rw [em_len, List.length_append]))) (Frz.aggc (by first | exact Frz.pure rfl | exact Frz.nils | exact Frz.whole rfl rfl rfl rfl (by first | exact em_len _ _ | (rw [em_len]; omega) | (rw [em_len, List.length_append]))) Frz.aggn)))) Frz.aggn) (m0_ok) rfl rfl (fun _ => rfl) ?_
    refine GL.guardT rfl ?_
    first | refine GL.lenF I0.mono rfl rfl (em_len _ _) ?_ | refine GL.lenO I0.mono rfl rfl rfl rfl ?_ | refine GL.lenN I0.mono rfl rfl ?_
    refine GL.guardT rfl ?_
    refine GL.bin I0.mono (v := .bool true) (by kernel_rfl) ?_
    refine GL.pick I0.mono rfl (by conv => lhs; whnf) ?_
    refine GL.move I0.mono (by conv => lhs; whnf) ?_
    refine GL.guardT rfl ?_
    refine GL.call0 I0.mono rfl (Frz.aggn) (wakes07_ok) rfl rfl (fun _ => rfl) ?_
    refine GL.pick I0.mono rfl (by conv => lhs; whnf) ?_
    refine GL.assign I0.mono (by conv => lhs; whnf) ?_
    refine GL.doneF ?_
    refine goOn ?_
    refine Wp.retI ?_
    refine RetX.ret ?_
    refine ⟨_, _, _, _, .cons (.tmp rfl) .nil, .frz (.pure rfl), List.nodup_nil, by simp, ?_⟩
    rfl

theorem filt_none {l m : List Int} (h : ∀ x ∈ l, x ∈ m) : l.filter (fun s => !decide (s ∈ m)) = [] := List.filter_eq_nil_iff.2 fun x hx => by simp [h x hx]
theorem filt_all {l m : List Int} (h : ∀ x ∈ l, x ∉ m) : l.filter (fun s => !decide (s ∈ m)) = l := List.filter_eq_self.2 fun x hx => by simp [h x hx]
theorem nd_XYZ {X Y Z : List Int} (nX : X.Nodup) (nY : Y.Nodup) (nZ : Z.Nodup) (iX : ∀ y ∈ X, 0 ≤ y ∧ y < 20) (iY : ∀ y ∈ Y, 20 ≤ y ∧ y < 40) (iZ : ∀ y ∈ Z, 40 ≤ y ∧ y < 60) : (X ++ Y ++ Z).Nodup := by
  refine List.nodup_append.2 ⟨List.nodup_append.2 ⟨nX, nY, fun a ha b hb => ?_⟩, nZ, fun a ha b hb => ?_⟩
  · have := iX a ha
    have := iY b hb
    omega
  · have := iZ b hb
    rcases List.mem_append.1 ha with ha | ha
    · have := iX a ha
      omega
    · have := iY a ha
      omega
theorem nd_ZX {X Y Z : List Int} (nX : X.Nodup) (nY : Y.Nodup) (nZ : Z.Nodup) (iX : ∀ y ∈ X, 0 ≤ y ∧ y < 20) (iY : ∀ y ∈ Y, 20 ≤ y ∧ y < 40) (iZ : ∀ y ∈ Z, 40 ≤ y ∧ y < 60) : (Z ++ X).Nodup := List.nodup_append.2 ⟨nZ, nX, fun a ha b hb => by
  have := iZ a ha
  have := iX b hb
  omega⟩
theorem f_B {X Y Z : List Int} (nX : X.Nodup) (nY : Y.Nodup) (nZ : Z.Nodup) (iX : ∀ y ∈ X, 0 ≤ y ∧ y < 20) (iY : ∀ y ∈ Y, 20 ≤ y ∧ y < 40) (iZ : ∀ y ∈ Z, 40 ≤ y ∧ y < 60) : (X ++ Y ++ Z).filter (fun s => !decide (s ∈ Z ++ X)) = Y := by
  rw [List.filter_append, List.filter_append, filt_none (l := X) (fun x hx => by simp [hx]), filt_none (l := Z) (fun x hx => by simp [hx]), filt_all (l := Y) (fun y hy hm => by
    have := iY y hy
    rcases List.mem_append.1 hm with h | h
    · have := iZ y h
      omega
    · have := iX y h
      omega)]
  simp
theorem f_A {X Y Z : List Int} (nX : X.Nodup) (nY : Y.Nodup) (nZ : Z.Nodup) (iX : ∀ y ∈ X, 0 ≤ y ∧ y < 20) (iY : ∀ y ∈ Y, 20 ≤ y ∧ y < 40) (iZ : ∀ y ∈ Z, 40 ≤ y ∧ y < 60) : (Z ++ X).filter (fun s => !decide (s ∈ X ++ Y ++ Z)) = [] := filt_none fun x hx => by
  rcases List.mem_append.1 hx with h | h <;> simp [h]
theorem mv1 {X Y Z : List Int} (nX : X.Nodup) (nY : Y.Nodup) (nZ : Z.Nodup) (iX : ∀ y ∈ X, 0 ≤ y ∧ y < 20) (iY : ∀ y ∈ Y, 20 ≤ y ∧ y < 40) (iZ : ∀ y ∈ Z, 40 ≤ y ∧ y < 60) : movedL (dM X Y Z) = sorted Y := by
  have hB : collB (dM X Y Z).turns = X ++ Y ++ Z := by
    show Z.foldl addK ((X ++ Y).foldl addK []) = _
    have h := nd_XYZ nX nY nZ iX iY iZ
    rw [addAll_nodup (l := X ++ Y) (b := []) (by simpa using (List.nodup_append.1 h).1)]
    exact addAll_nodup h
  have hA : collA (dM X Y Z).turns = Z ++ X := by
    show X.foldl addK (Z.foldl addK []) = _
    rw [addAll_nodup (l := Z) (b := []) (by simpa using nZ)]
    exact addAll_nodup (nd_ZX nX nY nZ iX iY iZ)
  rw [movedL, hA, hB, f_B nX nY nZ iX iY iZ, f_A nX nY nZ iX iY iZ, List.append_nil]
theorem mv2 {X Y Z : List Int} (nX : X.Nodup) (nY : Y.Nodup) (nZ : Z.Nodup) (iX : ∀ y ∈ X, 0 ≤ y ∧ y < 20) (iY : ∀ y ∈ Y, 20 ≤ y ∧ y < 40) (iZ : ∀ y ∈ Z, 40 ≤ y ∧ y < 60) : movedL (invD (dM X Y Z)) = sorted Y := by
  have hA : collA (invD (dM X Y Z)).turns = X ++ Y ++ Z := by
    show Z.foldl addK ((X ++ Y).foldl addK []) = _
    have h := nd_XYZ nX nY nZ iX iY iZ
    rw [addAll_nodup (l := X ++ Y) (b := []) (by simpa using (List.nodup_append.1 h).1)]
    exact addAll_nodup h
  have hB : collB (invD (dM X Y Z)).turns = Z ++ X := by
    show X.foldl addK (Z.foldl addK []) = _
    rw [addAll_nodup (l := Z) (b := []) (by simpa using nZ)]
    exact addAll_nodup (nd_ZX nX nY nZ iX iY iZ)
  rw [movedL, hA, hB, f_B nX nY nZ iX iY iZ, f_A nX nY nZ iX iY iZ, List.nil_append]
theorem ok_dM {X Y Z : List Int} (lX : X.length ≤ 6) (lY : Y.length ≤ 6) (lZ : Z.length ≤ 6) : OkD (dM X Y Z) := okD_of (by
  simp [dM]
  omega)
theorem ok_dM2 {X Y Z : List Int} (lX : X.length ≤ 6) (lY : Y.length ≤ 6) (lZ : Z.length ≤ 6) : OkD (invD (dM X Y Z)) := okD_of (by
  simp [dM, invD, invT]
  omega)
theorem law_DeltaMoves (z0 : List Int) (h0 : Ints z0) (z1 : List Int) (h1 : Ints z1) (z2 : List Int) (h2 : Ints z2) : CallsV Try.prog 5 [.sl (em ni z0), .sl (em ni z1), .sl (em ni z2)] (.bool true) := by
  have a0 := fewL_len z0 0
  have a1 := fewL_len z1 20
  have a2 := fewL_len z2 40
  have hmx : maxLen < 9223372036854775808 := by decide
  have l0 := h0.len
  have l1 := h1.len
  have l2 := h2.len
  have e1 := mv1 (fewL_nodup z0 0) (fewL_nodup z1 20) (fewL_nodup z2 40) (by simpa using fewL_in z0 0) (fewL_in z1 20) (fewL_in z2 40)
  have e2 := mv2 (fewL_nodup z0 0) (fewL_nodup z1 20) (fewL_nodup z2 40) (by simpa using fewL_in z0 0) (fewL_in z1 20) (fewL_in z2 40)
  exact dm_walk z0 z1 z2 _ _ _ (few_f z0 (by omega) 0 (by omega)) (few_f z1 (by omega) 20 (by omega)) (few_f z2 (by omega) 40 (by omega)) a0 a1 a2
    (e1 ▸ moved_f _ (ok_dM a0 a1 a2)) (inverse_ok _ (ok_dM a0 a1 a2)) (e2 ▸ moved_f _ (ok_dM2 a0 a1 a2))

end Go.Proofs.Ytffnlhjdlhpmjaa
