/- The law of a route that is built stop by stop, walked. -/
import Derived.Test.YtpepcfombibpeaaFg
import Derived.Test.YtpepcfombibpeaaFk
import Derived.Test.YtpepcfombibpeaaGf
import Derived.KernelRfl
set_option linter.unusedVariables false
set_option linter.unusedSimpArgs false
namespace Go.Proofs.Ytpepcfombibpeaa
open Go.Proofs Mv


theorem with_at {l : List Int} (hl : Short l) {k : Int} (h0 : 0 ≤ k) (h1 : k ≤ l.length) (s : Int) : CallsV Try.prog 54 [.sl (em ni l), .int .i64 k, .int .i64 s] (.sl (em ni (l.take k.toNat ++ [s] ++ l.drop k.toNat))) := by
  have := with_ok l hl k.toNat (by omega) s
  rwa [Int.toNat_of_nonneg h0] at this

set_option maxRecDepth 100000 in
set_option maxHeartbeats 4000000 in
theorem fg_walk (z0 z1 : List Int) (n : Int) (Z : Inst) (ht : Tb (noPairs Z)) (hst : Z.stops.length ≤ 8) (hcn : Z.cars.length ≤ 3) (hI : CallsV Try.prog 29 [.sl (em ni z0)] (ei Z)) (c : Int) (hc : within n Z.cars.length = c) (hstep : ∀ (r : List Int) (x s : Int), r.length ≤ 20 → 0 ≤ x → x ≤ r.length → CallsV Try.prog 53 [tabP (noPairs Z) c r.length (heads (noPairs Z) c r) (tails (noPairs Z) c r), .int .i64 x, .int .i64 s] (.tup [.int .i64 0, .bool false]) ∨ ∃ T : Trip, CallsV Try.prog 53 [tabP (noPairs Z) c r.length (heads (noPairs Z) c r) (tails (noPairs Z) c r), .int .i64 x, .int .i64 s] (.tup [.int .i64 T.t2, .bool true]) ∧ CallsV Try.prog 32 [ei (noPairs Z), .int .i64 c, .sl (em ni (r.take x.toNat ++ [s] ++ r.drop x.toNat))] (.tup [.agg (nt T), .bool true]) ∧ CallsV Try.prog 51 [tabP (noPairs Z) c (r.take x.toNat ++ [s] ++ r.drop x.toNat).length (heads (noPairs Z) c (r.take x.toNat ++ [s] ++ r.drop x.toNat)) (tails (noPairs Z) c (r.take x.toNat ++ [s] ++ r.drop x.toNat))] (.tup [.int .i64 T.t2, .bool true])) : CallsV Try.prog 16 [.sl (em ni z0), .sl (em ni z1), .int .i64 n] (.bool true) := by
  refine CallsR.intro set_sound mix Try.func16 rfl rfl (by simp [Try.f16]) (by kernel_rfl) (nb := 0) ?_
  unfold Try.f16
  refine Wp.seqI ?_
  refine Wp.regI I1.mono ?_
  refine GL.assign I1.mono (by conv => lhs; whnf) ?_
  refine GL.doneF ?_
  refine goOn ?_
  refine Wp.seqI ?_
  refine Wp.regI I1.mono ?_
  refine GL.move I1.mono (by conv => lhs; whnf) ?_
  refine GL.call0 I1.mono rfl (Frz.aggc (by exact Frz.pure rfl) (Frz.aggn)) (hI) rfl rfl (fun _ => rfl) ?_
  refine GL.alloc I1.mono (cs := [LV.nils, LV.nils, LV.nils, LV.nils]) rfl rfl ?_
  intro g7
  refine GL.storeW I1.mono (n := 4) rfl rfl rfl rfl rfl rfl rfl (by conv => lhs; whnf) rfl rfl rfl ?_
  refine GL.doneF ?_
  refine goOn ?_
  refine Wp.seqI ?_
  refine Wp.regI I1.mono ?_
  refine GL.fieldAddr I1.mono (o := 2) rfl rfl rfl rfl (by conv => lhs; whnf) ?_
  refine GL.store I1.mono (n := 1) rfl rfl rfl rfl rfl rfl rfl rfl rfl rfl (Nat.le_of_ble_eq_true rfl) (by (conv => lhs; simp only [List.take_succ_cons, List.take_zero, List.drop_succ_cons, List.drop_zero, List.nil_append, List.cons_append, List.drop_nil, List.append_nil, List.take_nil, List.set_cons_zero, List.set_cons_succ, Nat.zero_add, ni, nr, nc, ns, np, ic, nt, ei, cellsL, nh, nl, u32, tabL])) (by (conv => lhs; simp only [List.take_succ_cons, List.take_zero, List.drop_succ_cons, List.drop_zero, List.nil_append, List.cons_append, List.drop_nil, List.append_nil, List.take_nil, List.set_cons_zero, List.set_cons_succ, Nat.zero_add, ni, nr, nc, ns, np, ic, nt, ei, cellsL, nh, nl, u32, tabL])) ?_
  refine GL.doneF ?_
  refine goOn ?_
  refine Wp.seqI ?_
  refine Wp.regI I1.mono ?_
  refine GL.move I1.mono (by conv => lhs; whnf) ?_
  refine GL.fieldAddr I1.mono (o := 0) rfl rfl rfl rfl (by conv => lhs; whnf) ?_
  refine GL.load I1.mono rfl rfl rfl rfl (by simp) rfl rfl ?_
  refine GL.lenF I1.mono rfl rfl (em_len _ _) ?_
  refine GL.call0 I1.mono rfl (Frz.aggc (by exact Frz.pure rfl) (Frz.aggc (by exact Frz.pure rfl) (Frz.aggn))) ((hc ▸ within_ok _ _ (by omega))) rfl rfl (fun _ => rfl) ?_
  refine GL.assign I1.mono (by conv => lhs; whnf) ?_
  refine GL.doneF ?_
  refine goOn ?_
  refine Wp.seqI ?_
  refine Wp.regI I1.mono ?_
  refine GL.loadW I1.mono (n := 4) rfl rfl rfl rfl (by simp) rfl rfl rfl ?_
  refine GL.move I1.mono (by conv => lhs; whnf) ?_
  refine GL.callN I1.mono rfl (Frz.aggc (Frz.aggc (by exact Frz.pure rfl) (Frz.aggc (by exact Frz.pure rfl) (Frz.aggc (by exact Frz.nils) (Frz.aggc (by exact Frz.pure rfl) Frz.aggn)))) (Frz.aggc (Frz.pure rfl) (Frz.aggc Frz.nils Frz.aggn))) (tnew_ok (noPairs Z) ht c [] (by unfold Short; decide)) rfl rfl (imp_tab _ _ _ _ _ _ _) ?_
  refine GL.assign I1.mono (by conv => lhs; whnf) ?_
  refine GL.doneF ?_
  refine goOn ?_
  refine Wp.seqI ?_
  refine Wp.seqI ?_
  refine Wp.regI I1.mono ?_
  refine GL.move I1.mono (by conv => lhs; whnf) ?_
  refine GL.nilEq I1.mono rfl rfl rfl rfl rfl ?_
  refine GL.doneF ?_
  refine goOn ?_
  refine Wp.condF rfl ?_
  refine Wp.skipI ?_
  refine goOn ?_
  refine Wp.seqI ?_
  refine Wp.regI I1.mono ?_
  refine GL.assign I1.mono (by conv => lhs; whnf) ?_
  refine GL.doneF ?_
  refine goWeak (Weak.nilSl (j := 9) rfl) ?_
  refine Wp.seqI ?_
  refine Wp.seqI ?_
  refine Wp.regI I1.mono ?_
  refine GL.assign I1.mono (by conv => lhs; whnf) ?_
  refine GL.doneF ?_
  refine goOn ?_
  refine Wp.blockI ?_
  refine Wp.loopI I1.mono (α := Nat × List Int × Nat) (fun ⟨k, r, gt⟩ st => (k ≤ 32 ∧ 2 * r.length ≤ k) ∧ ∃ m0, st = ⟨(updS (updS (updS (updS (updS (updS (fun _ => LV.undef) 1 (.sl (em ni z1))) 2 (.int .i64 c)) 7 (.ref 448 g7 0 0)) 8 (.ref 1856 gt 0 0)) 9 (.sl (em ni r))) 10 (.int .i64 (k : Int))), effM m0 [(448, ⟨g7, false, .var, 4, [[.sl (em nc Z.cars), .sl (em ns Z.stops), .nils, .sl (em nr Z.travel)]]⟩), (1856, ⟨gt, false, .var, 8, [tabL (noPairs Z) c (r.length : Int) (heads (noPairs Z) c r) (tails (noPairs Z) c r)]⟩)]⟩) (fun ⟨k, r, gt⟩ => 32 - k) ⟨0, [], _⟩ ⟨_, (LessS.weak (LessS.upd (LessS.upd (LessS.upd (LessS.upd (LessS.upd (LessS.upd (LessS.nil _) rfl) rfl) rfl) rfl) rfl) rfl) _), ⟨Nat.zero_le _, Nat.le_refl _⟩, _, (congrArg (St.mk _) (effM_eq (Has.cons rfl (Has.cons rfl Has.nil))).symm)⟩ ?_
  rintro ⟨k, r, gt⟩ _ ⟨⟨hk, hrk⟩, m0, rfl⟩
  refine Wp.seqI ?_
  refine Wp.seqI ?_
  refine Wp.regI I1.mono ?_
  refine GL.move I1.mono (by conv => lhs; whnf) ?_
  refine GL.addR I1.mono rfl rfl (by omega) ?_
  refine GL.move I1.mono (by conv => lhs; whnf) ?_
  refine GL.lenF I1.mono rfl rfl (em_len _ _) ?_
  refine GL.bin I1.mono rfl ?_
  refine GL.move I1.mono (by conv => lhs; whnf) ?_
  refine GL.splitAt 37 rfl (fun h37 => ?_) (fun h37 => ?_)
  ·rw [h37]
   replace h37 := of_decide_eq_true h37
   refine GL.guardT rfl ?_
   refine GL.move I1.mono (by conv => lhs; whnf) ?_
   refine GL.guardT rfl ?_
   refine GL.bin I1.mono rfl ?_
   refine GL.pick I1.mono rfl (by conv => lhs; whnf) ?_
   refine GL.doneF ?_
   refine goOn ?_
   refine Wp.condI rfl (fun h40 => ?_) (fun h40 => ?_)
   ·replace h40 := of_decide_eq_true h40
    refine Wp.skipI ?_
    refine goOn ?_
    refine Wp.seqI ?_
    refine Wp.blockI ?_
    refine Wp.seqI ?_
    have hw1 := within_le (z1.getD k default) (n := (Z.stops.length : Int)) (by omega)
    have hx0 : 0 ≤ (within (z1.getD ((k : Int) + 1).toNat default) ((r.length : Int) + 1)) := (within_in (by omega)).1
    have hx1 : (within (z1.getD ((k : Int) + 1).toNat default) ((r.length : Int) + 1)) ≤ r.length := by have := (within_in (a := z1.getD ((k : Int) + 1).toNat default) (n := (r.length : Int) + 1) (by omega)).2; omega
    refine Wp.regD ?_
    refine GL.move I1.mono (by conv => lhs; whnf) ?_
    refine GL.move I1.mono (by conv => lhs; whnf) ?_
    refine GL.indexAddrF I1.mono (sz := 1) rfl rfl rfl rfl (by omega) (by (rw [em_len]; omega)) (by intro e he; obtain ⟨a, -, rfl⟩ := List.mem_map.1 he; rfl) (by with_reducible exact Int.toNat_natCast _) ?_
    refine GL.loadF I1.mono rfl rfl (by exact em_get (by omega)) rfl ?_
    refine GL.fieldAddr I1.mono (o := 1) rfl rfl rfl rfl (by conv => lhs; whnf) ?_
    refine GL.load I1.mono rfl rfl rfl rfl (by simp) rfl rfl ?_
    refine GL.lenF I1.mono rfl rfl (em_len _ _) ?_
    refine GL.call0 I1.mono rfl (Frz.aggc (by exact Frz.pure rfl) (Frz.aggc (by exact Frz.pure rfl) (Frz.aggn))) (within_ok _ _ (by omega)) rfl rfl (fun _ => rfl) ?_
    refine GL.addR I1.mono rfl rfl (by omega) ?_
    refine GL.move I1.mono (by conv => lhs; whnf) ?_
    refine GL.move I1.mono (by conv => lhs; whnf) ?_
    refine GL.addR I1.mono rfl rfl (by omega) ?_
    refine GL.indexAddrF I1.mono (sz := 1) rfl rfl rfl rfl (by omega) (by (rw [em_len]; omega)) (by intro e he; obtain ⟨a, -, rfl⟩ := List.mem_map.1 he; rfl) (by rfl) ?_
    refine GL.loadF I1.mono rfl rfl (by exact em_get (by omega)) rfl ?_
    refine GL.move I1.mono (by conv => lhs; whnf) ?_
    refine GL.lenF I1.mono rfl rfl (em_len _ _) ?_
    refine GL.addR I1.mono rfl rfl (by omega) ?_
    refine GL.call0 I1.mono rfl (Frz.aggc (by exact Frz.pure rfl) (Frz.aggc (by exact Frz.pure rfl) (Frz.aggn))) (within_ok _ _ (by omega)) rfl rfl (fun _ => rfl) ?_
    refine GL.assign I1.mono (by conv => lhs; whnf) ?_
    refine GL.assign I1.mono (by conv => lhs; whnf) ?_
    refine GL.doneT (by kernel_rfl) ?_
    refine goOn ?_
    refine Wp.seqI ?_
    rcases hstep r (within (z1.getD ((k : Int) + 1).toNat default) ((r.length : Int) + 1)) (1 + within (z1.getD k default) Z.stops.length) (by omega) hx0 hx1 with hi | ⟨T, hi, he, hw⟩
    ·skip
     refine Wp.regI I1.mono ?_
     refine GL.move I1.mono (by conv => lhs; whnf) ?_
     refine GL.move I1.mono (by conv => lhs; whnf) ?_
     refine GL.move I1.mono (by conv => lhs; whnf) ?_
     refine GL.callFl I1.mono rfl (Frz.aggc (Frz.ref rfl rfl rfl rfl (Frz.pures rfl)) (Frz.aggc (Frz.pure rfl) (Frz.aggc (Frz.pure rfl) Frz.aggn))) (hi) (flat_ib _ _) rfl rfl ?_
     refine GL.move I1.mono (by conv => lhs; whnf) ?_
     refine GL.extract I1.mono rfl rfl ?_
     refine GL.extract I1.mono rfl rfl ?_
     refine GL.assign I1.mono (by conv => lhs; whnf) ?_
     refine GL.assign I1.mono (by conv => lhs; whnf) ?_
     refine GL.doneF ?_
     refine goOn ?_
     refine Wp.seqI ?_
     refine Wp.seqI ?_
     refine Wp.regI I1.mono ?_
     refine GL.move I1.mono (by conv => lhs; whnf) ?_
     refine GL.un I1.mono rfl ?_
     refine GL.doneF ?_
     refine goOn ?_
     refine Wp.condT rfl ?_
     refine Wp.exitI ?_
     refine thenX.exit ?_
     refine blockX.out ?_
     refine goOn ?_
     refine Wp.regI I1.mono ?_
     refine GL.move I1.mono (by conv => lhs; whnf) ?_
     refine GL.addR I1.mono rfl rfl (by omega) ?_
     refine GL.assign I1.mono (by conv => lhs; whnf) ?_
     refine GL.doneF ?_
     first
     | refine ⟨⟨k + 2, r, _⟩, (by dsimp only; omega), _, (LessS.weak (LessS.upd (LessS.upd (LessS.upd (LessS.upd (LessS.upd (LessS.upd (LessS.nil _) rfl) rfl) rfl) rfl) rfl) rfl) _), (by omega), _, (congrArg (St.mk _) (effM_eq (Has.cons rfl (Has.cons rfl Has.nil))).symm)⟩
     | refine ⟨⟨k + 2, (r.take (within (z1.getD ((k : Int) + 1).toNat default) ((r.length : Int) + 1)).toNat ++ [(1 + within (z1.getD k default) Z.stops.length)] ++ r.drop (within (z1.getD ((k : Int) + 1).toNat default) ((r.length : Int) + 1)).toNat), _⟩, (by dsimp only; omega), _, (LessS.weak (LessS.upd (LessS.upd (LessS.upd (LessS.upd (LessS.upd (LessS.upd (LessS.nil _) rfl) rfl) rfl) rfl) rfl) rfl) _), (by first | omega | (dsimp only; omega)), _, (congrArg (St.mk _) (effM_eq (Has.cons rfl (Has.cons rfl Has.nil))).symm)⟩
    ·skip
     refine Wp.regI I1.mono ?_
     refine GL.move I1.mono (by conv => lhs; whnf) ?_
     refine GL.move I1.mono (by conv => lhs; whnf) ?_
     refine GL.move I1.mono (by conv => lhs; whnf) ?_
     refine GL.callFl I1.mono rfl (Frz.aggc (Frz.ref rfl rfl rfl rfl (Frz.pures rfl)) (Frz.aggc (Frz.pure rfl) (Frz.aggc (Frz.pure rfl) Frz.aggn))) (hi) (flat_ib _ _) rfl rfl ?_
     refine GL.move I1.mono (by conv => lhs; whnf) ?_
     refine GL.extract I1.mono rfl rfl ?_
     refine GL.extract I1.mono rfl rfl ?_
     refine GL.assign I1.mono (by conv => lhs; whnf) ?_
     refine GL.assign I1.mono (by conv => lhs; whnf) ?_
     refine GL.doneF ?_
     refine goOn ?_
     refine Wp.seqI ?_
     refine Wp.seqI ?_
     refine Wp.regI I1.mono ?_
     refine GL.move I1.mono (by conv => lhs; whnf) ?_
     refine GL.un I1.mono rfl ?_
     refine GL.doneF ?_
     refine goOn ?_
     refine Wp.condF rfl ?_
     refine Wp.skipI ?_
     refine goOn ?_
     refine Wp.seqI ?_
     refine Wp.regI I1.mono ?_
     refine GL.move I1.mono (by conv => lhs; whnf) ?_
     refine GL.move I1.mono (by conv => lhs; whnf) ?_
     refine GL.move I1.mono (by conv => lhs; whnf) ?_
     refine GL.call0 I1.mono rfl (Frz.aggc (Frz.pure rfl) (Frz.aggc (Frz.pure rfl) (Frz.aggc (Frz.pure rfl) Frz.aggn))) (with_at (by unfold Short; omega) hx0 hx1 _) rfl rfl (fun _ => rfl) ?_
     refine GL.assign I1.mono (by conv => lhs; whnf) ?_
     refine GL.doneF ?_
     refine goOn ?_
     refine Wp.seqI ?_
     have hR : (r.take (within (z1.getD ((k : Int) + 1).toNat default) ((r.length : Int) + 1)).toNat ++ [(1 + within (z1.getD k default) Z.stops.length)] ++ r.drop (within (z1.getD ((k : Int) + 1).toNat default) ((r.length : Int) + 1)).toNat).length = r.length + 1 := (by rw [List.length_append, List.length_append, List.length_take, List.length_drop]; simp only [List.length_cons, List.length_nil]; omega)
     refine Wp.regI I1.mono ?_
     refine GL.move I1.mono (by conv => lhs; whnf) ?_
     refine GL.move I1.mono (by conv => lhs; whnf) ?_
     refine GL.inl I1.mono (nb' := 1000000) rfl ⟨rfl, rfl, fun c hc => ?_⟩
     unfold Try.f55 at hc
     injection hc with hc
     subst hc
     refine Wp.regD ?_
     refine GL.move I0.mono (by conv => lhs; whnf) ?_
     refine GL.move I0.mono (by conv => lhs; whnf) ?_
     refine GL.move I0.mono (by conv => lhs; whnf) ?_
     refine GL.move I0.mono (by conv => lhs; whnf) ?_
     refine GL.lenF I0.mono rfl rfl (em_len _ _) ?_
     refine GL.move I0.mono (by conv => lhs; whnf) ?_
     refine GL.nilCheckR I0.mono rfl rfl rfl ?_
     refine GL.fieldAddr I0.mono (o := 0) rfl rfl rfl rfl (by conv => lhs; whnf) ?_
     refine GL.loadA I0.mono (n := 4) rfl rfl rfl rfl (by simp) rfl rfl (Nat.le_of_ble_eq_true rfl) (by (conv => lhs; simp only [List.take_succ_cons, List.take_zero, List.drop_succ_cons, List.drop_zero, List.nil_append, List.cons_append, List.drop_nil, List.append_nil, List.take_nil, List.set_cons_zero, List.set_cons_succ, Nat.zero_add, ni, nr, nc, ns, np, ic, nt, ei, cellsL, nh, nl, u32, tabL])) ?_
     refine GL.move I0.mono (by conv => lhs; whnf) ?_
     refine GL.nilCheckR I0.mono rfl rfl rfl ?_
     refine GL.fieldAddr I0.mono (o := 4) rfl rfl rfl rfl (by conv => lhs; whnf) ?_
     refine GL.load I0.mono rfl rfl rfl rfl (by simp) rfl rfl ?_
     refine GL.move I0.mono (by conv => lhs; whnf) ?_
     refine GL.call0 I0.mono rfl (Frz.aggc (by exact Frz.pures rfl) (Frz.aggc (by exact Frz.pure rfl) (Frz.aggc (by exact Frz.pure rfl) (Frz.aggn)))) (heads_ok (noPairs Z) ht c _ (by unfold Short; omega)) rfl rfl (fun _ => rfl) ?_
     refine GL.move I0.mono (by conv => lhs; whnf) ?_
     refine GL.nilCheckR I0.mono rfl rfl rfl ?_
     refine GL.fieldAddr I0.mono (o := 0) rfl rfl rfl rfl (by conv => lhs; whnf) ?_
     refine GL.loadA I0.mono (n := 4) rfl rfl rfl rfl (by simp) rfl rfl (Nat.le_of_ble_eq_true rfl) (by (conv => lhs; simp only [List.take_succ_cons, List.take_zero, List.drop_succ_cons, List.drop_zero, List.nil_append, List.cons_append, List.drop_nil, List.append_nil, List.take_nil, List.set_cons_zero, List.set_cons_succ, Nat.zero_add, ni, nr, nc, ns, np, ic, nt, ei, cellsL, nh, nl, u32, tabL])) ?_
     refine GL.move I0.mono (by conv => lhs; whnf) ?_
     refine GL.nilCheckR I0.mono rfl rfl rfl ?_
     refine GL.fieldAddr I0.mono (o := 4) rfl rfl rfl rfl (by conv => lhs; whnf) ?_
     refine GL.load I0.mono rfl rfl rfl rfl (by simp) rfl rfl ?_
     refine GL.move I0.mono (by conv => lhs; whnf) ?_
     refine GL.call0 I0.mono rfl (Frz.aggc (by exact Frz.pures rfl) (Frz.aggc (by exact Frz.pure rfl) (Frz.aggc (by exact Frz.pure rfl) (Frz.aggn)))) (tails_ok (noPairs Z) ht c _ (by unfold Short; omega)) rfl rfl (fun _ => rfl) ?_
     refine GL.nilCheckR I0.mono rfl rfl rfl ?_
     refine GL.fieldAddr I0.mono (o := 5) rfl rfl rfl rfl (by conv => lhs; whnf) ?_
     refine GL.store I0.mono (n := 1) rfl rfl rfl rfl rfl rfl rfl rfl rfl rfl (Nat.le_of_ble_eq_true rfl) (by (conv => lhs; simp only [List.take_succ_cons, List.take_zero, List.drop_succ_cons, List.drop_zero, List.nil_append, List.cons_append, List.drop_nil, List.append_nil, List.take_nil, List.set_cons_zero, List.set_cons_succ, Nat.zero_add, ni, nr, nc, ns, np, ic, nt, ei, cellsL, nh, nl, u32, tabL])) (by (conv => lhs; simp only [List.take_succ_cons, List.take_zero, List.drop_succ_cons, List.drop_zero, List.nil_append, List.cons_append, List.drop_nil, List.append_nil, List.take_nil, List.set_cons_zero, List.set_cons_succ, Nat.zero_add, ni, nr, nc, ns, np, ic, nt, ei, cellsL, nh, nl, u32, tabL])) ?_
     refine GL.nilCheckR I0.mono rfl rfl rfl ?_
     refine GL.fieldAddr I0.mono (o := 6) rfl rfl rfl rfl (by conv => lhs; whnf) ?_
     refine GL.store I0.mono (n := 1) rfl rfl rfl rfl rfl rfl rfl rfl rfl rfl (Nat.le_of_ble_eq_true rfl) (by (conv => lhs; simp only [List.take_succ_cons, List.take_zero, List.drop_succ_cons, List.drop_zero, List.nil_append, List.cons_append, List.drop_nil, List.append_nil, List.take_nil, List.set_cons_zero, List.set_cons_succ, Nat.zero_add, ni, nr, nc, ns, np, ic, nt, ei, cellsL, nh, nl, u32, tabL])) (by (conv => lhs; simp only [List.take_succ_cons, List.take_zero, List.drop_succ_cons, List.drop_zero, List.nil_append, List.cons_append, List.drop_nil, List.append_nil, List.take_nil, List.set_cons_zero, List.set_cons_succ, Nat.zero_add, ni, nr, nc, ns, np, ic, nt, ei, cellsL, nh, nl, u32, tabL])) ?_
     refine GL.nilCheckR I0.mono rfl rfl rfl ?_
     refine GL.fieldAddr I0.mono (o := 7) rfl rfl rfl rfl (by conv => lhs; whnf) ?_
     refine GL.store I0.mono (n := 1) rfl rfl rfl rfl rfl rfl rfl rfl rfl rfl (Nat.le_of_ble_eq_true rfl) (by (conv => lhs; simp only [List.take_succ_cons, List.take_zero, List.drop_succ_cons, List.drop_zero, List.nil_append, List.cons_append, List.drop_nil, List.append_nil, List.take_nil, List.set_cons_zero, List.set_cons_succ, Nat.zero_add, ni, nr, nc, ns, np, ic, nt, ei, cellsL, nh, nl, u32, tabL])) (by (conv => lhs; simp only [List.take_succ_cons, List.take_zero, List.drop_succ_cons, List.drop_zero, List.nil_append, List.cons_append, List.drop_nil, List.append_nil, List.take_nil, List.set_cons_zero, List.set_cons_succ, Nat.zero_add, ni, nr, nc, ns, np, ic, nt, ei, cellsL, nh, nl, u32, tabL])) ?_
     refine GL.doneT (by kernel_rfl) ?_
     refine RetM.normal_ ?_
     refine ⟨_, .nil, ?_⟩
     refine GL.doneF ?_
     refine goOn ?_
     refine Wp.seqI ?_
     refine Wp.regI I1.mono ?_
     refine GL.loadW I1.mono (n := 4) rfl rfl rfl rfl (by simp) rfl rfl rfl ?_
     refine GL.move I1.mono (by conv => lhs; whnf) ?_
     refine GL.move I1.mono (by conv => lhs; whnf) ?_
     refine GL.call0 I1.mono rfl (Frz.aggc (by exact (Frz.aggc (by exact Frz.pure rfl) (Frz.aggc (by exact Frz.pure rfl) (Frz.aggc (by exact Frz.nils) (Frz.aggc (by exact Frz.pure rfl) Frz.aggn))))) (Frz.aggc (by exact Frz.pure rfl) (Frz.aggc (by exact Frz.pure rfl) (Frz.aggn)))) (he) rfl rfl (fun _ => rfl) ?_
     refine GL.move I1.mono (by conv => lhs; whnf) ?_
     refine GL.extract I1.mono rfl rfl ?_
     refine GL.extract I1.mono rfl rfl ?_
     refine GL.alloc I1.mono (cs := [LV.nils, LV.nils, LV.int .i64 0, LV.int .i64 0]) rfl rfl ?_
     intro g15
     refine GL.storeW I1.mono (n := 4) rfl rfl rfl rfl rfl rfl rfl (by conv => lhs; whnf) rfl rfl rfl ?_
     refine GL.assign I1.mono (by conv => lhs; whnf) ?_
     refine GL.doneF ?_
     refine goOn ?_
     refine Wp.seqI ?_
     refine Wp.regI I1.mono ?_
     refine GL.move I1.mono (by conv => lhs; whnf) ?_
     refine GL.callFl I1.mono rfl (Frz.aggc (Frz.ref rfl rfl rfl rfl (Frz.pures rfl)) Frz.aggn) (hw) (flat_ib _ _) rfl rfl ?_
     refine GL.move I1.mono (by conv => lhs; whnf) ?_
     refine GL.extract I1.mono rfl rfl ?_
     refine GL.extract I1.mono rfl rfl ?_
     refine GL.assign I1.mono (by conv => lhs; whnf) ?_
     refine GL.assign I1.mono (by conv => lhs; whnf) ?_
     refine GL.doneF ?_
     refine goOn ?_
     refine Wp.seqI ?_
     refine Wp.regI I1.mono ?_
     refine GL.move I1.mono (by conv => lhs; whnf) ?_
     refine GL.un I1.mono rfl ?_
     refine GL.move I1.mono (by conv => lhs; whnf) ?_
     refine GL.guardT rfl ?_
     refine GL.fieldAddr I1.mono (o := 2) rfl rfl rfl rfl (by conv => lhs; whnf) ?_
     refine GL.guardT rfl ?_
     refine GL.load I1.mono rfl rfl rfl rfl (by simp) rfl rfl ?_
     refine GL.guardT rfl ?_
     refine GL.move I1.mono (by conv => lhs; whnf) ?_
     refine GL.guardT rfl ?_
     refine GL.bin I1.mono (v := .bool false) (by show some (LV.bool (_ != _)) = _; rw [bne_self_eq_false]) ?_
     refine GL.pick I1.mono rfl (by conv => lhs; whnf) ?_
     refine GL.move I1.mono (by conv => lhs; whnf) ?_
     refine GL.guardT rfl ?_
     refine GL.move I1.mono (by conv => lhs; whnf) ?_
     refine GL.guardT rfl ?_
     refine GL.un I1.mono rfl ?_
     refine GL.pick I1.mono rfl (by conv => lhs; whnf) ?_
     refine GL.move I1.mono (by conv => lhs; whnf) ?_
     refine GL.guardT rfl ?_
     refine GL.move I1.mono (by conv => lhs; whnf) ?_
     refine GL.guardT rfl ?_
     refine GL.move I1.mono (by conv => lhs; whnf) ?_
     refine GL.guardT rfl ?_
     refine GL.bin I1.mono (v := .bool false) (by show some (LV.bool (_ != _)) = _; rw [bne_self_eq_false]) ?_
     refine GL.pick I1.mono rfl (by conv => lhs; whnf) ?_
     refine GL.move I1.mono (by conv => lhs; whnf) ?_
     refine GL.guardT rfl ?_
     refine GL.move I1.mono (by conv => lhs; whnf) ?_
     refine GL.guardT rfl ?_
     refine GL.callFl I1.mono rfl (Frz.aggc (Frz.ref rfl rfl rfl rfl (Frz.pures rfl)) Frz.aggn) (tlen_ok _ _ _ _ _) (FlatI.sca rfl) rfl rfl ?_
     refine GL.guardT rfl ?_
     refine GL.move I1.mono (by conv => lhs; whnf) ?_
     refine GL.guardT rfl ?_
     refine GL.lenF I1.mono rfl rfl (em_len _ _) ?_
     refine GL.guardT rfl ?_
     refine GL.bin I1.mono (v := .bool false) (by show some (LV.bool (_ != _)) = _; rw [bne_self_eq_false]) ?_
     refine GL.pick I1.mono rfl (by conv => lhs; whnf) ?_
     refine GL.doneF ?_
     refine goOn ?_
     refine Wp.condF rfl ?_
     refine Wp.skipI ?_
     refine blockX.normal ?_
     refine goOn ?_
     refine Wp.regI I1.mono ?_
     refine GL.move I1.mono (by conv => lhs; whnf) ?_
     refine GL.addR I1.mono rfl rfl (by omega) ?_
     refine GL.assign I1.mono (by conv => lhs; whnf) ?_
     refine GL.doneF ?_
     first
     | refine ⟨⟨k + 2, r, _⟩, (by dsimp only; omega), _, (LessS.weak (LessS.upd (LessS.upd (LessS.upd (LessS.upd (LessS.upd (LessS.upd (LessS.nil _) rfl) rfl) rfl) rfl) rfl) rfl) _), (by omega), _, (congrArg (St.mk _) (effM_eq (Has.cons rfl (Has.cons rfl Has.nil))).symm)⟩
     | refine ⟨⟨k + 2, (r.take (within (z1.getD ((k : Int) + 1).toNat default) ((r.length : Int) + 1)).toNat ++ [(1 + within (z1.getD k default) Z.stops.length)] ++ r.drop (within (z1.getD ((k : Int) + 1).toNat default) ((r.length : Int) + 1)).toNat), _⟩, (by dsimp only; omega), _, (LessS.weak (LessS.upd (LessS.upd (LessS.upd (LessS.upd (LessS.upd (LessS.upd (LessS.nil _) rfl) rfl) rfl) rfl) rfl) rfl) _), (by omega), _, (congrArg (St.mk _) (effM_eq (Has.cons rfl (Has.cons rfl Has.nil))).symm)⟩
   ·replace h40 := of_decide_eq_false h40
    refine Wp.exitI ?_
    refine thenX.exit ?_
    refine thenX.exit ?_
    refine blockX.out ?_
    refine goOn ?_
    refine Wp.seqI ?_
    refine Wp.regI I1.mono ?_
    refine GL.call0 I1.mono rfl (Frz.aggn) (wakes6_ok) rfl rfl (fun _ => rfl) ?_
    refine GL.assign I1.mono (by conv => lhs; whnf) ?_
    refine GL.doneF ?_
    refine goOn ?_
    refine Wp.retI ?_
    refine RetX.ret ?_
    refine ⟨_, _, _, _, .cons (.tmp rfl) .nil, .frz (.pure rfl), List.nodup_nil, by simp, ?_⟩
    rfl
  ·rw [h37]
   replace h37 := of_decide_eq_false h37
   refine GL.guardF rfl ?_
   refine GL.guardF rfl ?_
   refine GL.pick I1.mono rfl (by conv => lhs; whnf) ?_
   refine GL.doneF ?_
   refine goOn ?_
   refine Wp.condF rfl ?_
   refine Wp.exitI ?_
   refine thenX.exit ?_
   refine thenX.exit ?_
   refine blockX.out ?_
   refine goOn ?_
   refine Wp.seqI ?_
   refine Wp.regI I1.mono ?_
   refine GL.call0 I1.mono rfl (Frz.aggn) (wakes6_ok) rfl rfl (fun _ => rfl) ?_
   refine GL.assign I1.mono (by conv => lhs; whnf) ?_
   refine GL.doneF ?_
   refine goOn ?_
   refine Wp.retI ?_
   refine RetX.ret ?_
   refine ⟨_, _, _, _, .cons (.tmp rfl) .nil, .frz (.pure rfl), List.nodup_nil, by simp, ?_⟩
   rfl


theorem law_FitsGrows (z0 : List Int) (h0 : Ints z0) (z1 : List Int) (h1 : Ints z1) (n : Int) : CallsV Try.prog 16 [.sl (em ni z0), .sl (em ni z1), .int .i64 n] (.bool true) := by
  have hb0 := inst_sb z0
  have hb := noPairs_sb hb0
  have hp := nopairs (i := noPairs (instOf z0)) rfl
  have ht := tb_inst hb hp.2
  have hst := hb0.sq.stops
  have hN := hb0.sq.high
  have hci := within_in (a := n) (n := (instOf z0).cars.length) (by have := hb0.sq.cars0; omega)
  refine fg_walk z0 z1 n (instOf z0) ht (by omega) hb0.sq.cars1 (inst_ok z0 h0) _ rfl fun r x s hr hx0 hx1 => ?_
  have hln : (r.take x.toNat ++ [s] ++ r.drop x.toNat).length ≤ 400 := by rw [List.length_append, List.length_append, List.length_take, List.length_drop]; simp only [List.length_cons, List.length_nil]; omega
  have e1 := t_insert hb hp.1 hp.2 hci.1 hci.2 (l := r) (by omega) hx0 hx1 s
  have e2 := t_whole hb hp.1 hp.2 hci.1 hci.2 hln
  have hi := tinsert_ok (noPairs (instOf z0)) (within n (instOf z0).cars.length) r.length (heads (noPairs (instOf z0)) (within n (instOf z0).cars.length) r) (tails (noPairs (instOf z0)) (within n (instOf z0).cars.length) r) ht x s
  have hw := twhole_ok (noPairs (instOf z0)) (within n (instOf z0).cars.length) (r.take x.toNat ++ [s] ++ r.drop x.toNat).length (heads (noPairs (instOf z0)) (within n (instOf z0).cars.length) (r.take x.toNat ++ [s] ++ r.drop x.toNat)) (tails (noPairs (instOf z0)) (within n (instOf z0).cars.length) (r.take x.toNat ++ [s] ++ r.drop x.toNat)) ht.short
  have he := reval_ok (noPairs (instOf z0)) (nStops z0) hb hp.1 (within n (instOf z0).cars.length) (r.take x.toNat ++ [s] ++ r.drop x.toNat) (by omega)
  rw [e1] at hi
  rw [e2] at hw
  generalize eval (noPairs (instOf z0)) (within n (instOf z0).cars.length) (r.take x.toNat ++ [s] ++ r.drop x.toNat) = o at *
  cases o with
  | none => exact .inl hi
  | some T => exact .inr ⟨T, hi, he, hw⟩

end Go.Proofs.Ytpepcfombibpeaa
