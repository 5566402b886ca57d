/- The evaluation of the reference, walked. -/
import Derived.Test.YtpepcfombibpeaaFe
import Derived.Test.YtpepcfombibpeaaMvC
import Derived.KernelRfl
set_option linter.unusedVariables false
set_option linter.unusedSimpArgs false
namespace Go.Proofs.Ytpepcfombibpeaa
open Go.Proofs Mv


theorem between_iff {a b c : Int} : between a b c = true ↔ b ≤ a ∧ a ≤ c := by simp [between]
theorem isStop_between (i : Inst) (n : Int) : between n 1 i.stops.length = isStop i n := rfl
theorem out_car {car n : Int} {p : Prop} (h : (!between car 0 (n - 1)) = true) : car < 0 ∨ car ≥ n ∨ p := by
  have h1 : ¬ between car 0 (n - 1) = true := by simpa using h
  rw [between_iff] at h1
  by_cases h2 : car < 0
  · exact .inl h2
  · exact .inr (.inl (by omega))
theorem nb_t {b : Bool} (h : (!b) = false) : b = true := by simpa using h
theorem nb_f {b : Bool} (h : (!b) = true) : b = false := by simpa using h
theorem all_snoc {Q : Nat → Prop} {k : Nat} (h : ∀ j, j < k → Q j) (hk : Q k) : ∀ j, j < k + 1 → Q j := fun j hj => (Nat.lt_succ_iff_lt_or_eq.1 hj).elim (h j) fun e => e ▸ hk



set_option maxRecDepth 100000 in
set_option maxHeartbeats 4000000 in
theorem reval_own (I : Inst) (N : Nat) (hb : Sb I N) (hp : Sp I) (car : Int) (r : List Int) (hrl : r.length ≤ 1000) : CallsV Try.prog 32 [ei I, .int .i64 car, .sl (em ni r)] (tripO (eval I car r)) := by
  refine CallsR.intro (I0.sound _) mix Try.func32 rfl rfl (by simp [Try.f32]) (by kernel_rfl) (nb := 0) ?_
  unfold Try.f32
  refine Wp.seqI ?_
  refine Wp.regI I0.mono ?_
  refine GL.box I0.mono (by conv => lhs; whnf) rfl (n := 4) rfl rfl ?_
  intro g3
  refine GL.alloc I0.mono (cs := [LV.nils, LV.nils, LV.int .i64 0, LV.int .i64 0]) rfl rfl ?_
  intro g6
  refine GL.assign I0.mono (by conv => lhs; whnf) ?_
  refine GL.doneF ?_
  refine goOn ?_
  refine Wp.seqI ?_
  refine Wp.seqI ?_
  refine Wp.regI I0.mono ?_
  refine GL.loadW I0.mono (n := 4) rfl rfl rfl rfl (by simp) rfl rfl rfl ?_
  refine GL.move I0.mono (by conv => lhs; whnf) ?_
  refine GL.call0 I0.mono rfl (Frz.aggc (by exact Frz.pures rfl) (Frz.aggc (by exact Frz.pure rfl) (Frz.aggn))) (rcar_ok I hb.sq.short _) rfl rfl (fun _ => rfl) ?_
  refine GL.un I0.mono rfl ?_
  refine GL.doneF ?_
  refine goOn ?_
  refine Wp.condI rfl (fun h30 => ?_) (fun h30 => ?_)
  ·skip
   refine Wp.seqI ?_
   refine Wp.regI I0.mono ?_
   refine GL.buildS I0.mono (z := [LV.nils, LV.nils, LV.int .i64 0, LV.int .i64 0]) (cs := [_, _, _, _]) (n := 4) rfl rfl rfl (EvS.nil) rfl rfl ?_
   refine GL.storeW I0.mono (n := 4) rfl rfl rfl rfl rfl rfl rfl (by conv => lhs; whnf) rfl rfl rfl ?_
   refine GL.assign I0.mono (by conv => lhs; whnf) ?_
   refine GL.doneF ?_
   refine goOn ?_
   refine Wp.retI ?_
   refine thenX.ret ?_
   refine RetX.ret ?_
   refine ⟨_, _, _, _, .cons (.cellA (n := 4) rfl rfl rfl (by simp) rfl rfl rfl (Nat.le_of_ble_eq_true rfl)) (.cons (.tmp rfl) .nil), .tup (.aggc (.aggc (by exact Exp.nils (sz := 1)) (.aggc (by exact Exp.nils (sz := 1)) (.aggc (.frz (.pure rfl)) (.aggc (.frz (.pure rfl)) .aggn)))) (.aggc (.frz (.pure rfl)) .aggn)), (by decide), by simp, ?_⟩
   first
   | (rw [eval_out (by exact out_car h30)]; rfl)
   | (rw [eval_lose hb hcar.1 hcar.2 (.inl ⟨k, by omega, fun hF => by obtain ⟨q1, q2, q3⟩ := hF; unfold carAt stopAt at q1; unfold carAt at q3; omega⟩)]; rfl)
   | (rw [eval_lose hb hcar.1 hcar.2 (.inr h214)]; rfl)
   | (rw [eval_win hb hcar.1 hcar.2 hrl hord hi.2 h214]; rfl)
  ·skip
   have hcar : 0 ≤ car ∧ car < I.cars.length := by have := between_iff.1 (show between car 0 ((I.cars.length : Int) - 1) = true by simpa using h30); omega
   have hca := hb.car car.toNat (by omega)
   have hN := hb.sq.high
   have hS := hb.sq.stops
   have hTr := hb.sq.travel
   refine Wp.skipI ?_
   refine goOn ?_
   refine Wp.seqI ?_
   refine Wp.regI I0.mono ?_
   refine GL.makeMap I0.mono ?_
   intro g32
   refine GL.assign I0.mono (by conv => lhs; whnf) ?_
   refine GL.doneF ?_
   refine goOn ?_
   refine Wp.seqI ?_
   refine Wp.seqI ?_
   refine Wp.regI I0.mono ?_
   refine GL.move I0.mono (by conv => lhs; whnf) ?_
   refine GL.lenF I0.mono rfl rfl (em_len _ _) ?_
   refine GL.move I0.mono (by conv => lhs; whnf) ?_
   refine GL.doneF ?_
   refine goOn ?_
   refine Wp.blockI ?_
   refine Wp.loopI I0.mono (α := Nat) (fun k st => (k ≤ r.length ∧ (∀ j, j < k → isStop I (r.getD j default) = true) ∧ ∀ j, j < k → Mv.has (r.take j) (r.getD j default) = false) ∧ ∃ m0, st = ⟨(updS (updS (updS (updS (updS (updS (updS (updS (updS (fun _ => LV.undef) 1 (.int .i64 car)) 2 (.sl (em ni r))) 3 (.ref 192 g3 0 0)) 6 (.ref 384 g6 0 0)) 7 (.bool false)) 8 (.mref 2048 g32)) 33 (.sl (em ni r))) 34 (.int .i64 (r.length : Int))) 35 (.int .i64 (k : Int))), effM m0 [(192, ⟨g3, false, .var, 4, [ic I]⟩), (384, ⟨g6, false, .var, 4, [[.nils, .nils, .int .i64 0, .int .i64 0]]⟩), (2048, ⟨g32, false, .mp, 2, ents 0 (r.take k)⟩)]⟩) (fun k => r.length - k) 0 ⟨_, (LessS.weak (LessS.upd (LessS.upd (LessS.upd (LessS.upd (LessS.upd (LessS.upd (LessS.upd (LessS.upd (LessS.upd (LessS.nil _) rfl) rfl) rfl) rfl) rfl) rfl) rfl) rfl) rfl) _), ⟨Nat.zero_le _, fun j h => absurd h (Nat.not_lt_zero _), fun j h => absurd h (Nat.not_lt_zero _)⟩, _, (congrArg (St.mk _) (effM_eq (Has.cons rfl (Has.cons rfl (Has.cons rfl Has.nil)))).symm)⟩ ?_
   rintro k _ ⟨⟨hi, hv, hdd⟩, m0, rfl⟩
   refine Wp.seqI ?_
   refine Wp.regI I0.mono ?_
   refine GL.bin I0.mono rfl ?_
   refine GL.doneF ?_
   refine goOn ?_
   refine Wp.seqI ?_
   refine Wp.condI rfl (fun h36 => ?_) (fun h36 => ?_)
   ·replace h36 := of_decide_eq_true h36
    refine Wp.skipI ?_
    refine goOn ?_
    refine Wp.seqI ?_
    refine Wp.blockI ?_
    refine Wp.seqI ?_
    refine Wp.regI I0.mono ?_
    refine GL.move I0.mono (by conv => lhs; whnf) ?_
    refine GL.indexAddrF I0.mono (sz := 1) rfl rfl rfl rfl (by omega) (by (rw [em_len]; omega)) (by intro e he; obtain ⟨a, -, rfl⟩ := List.mem_map.1 he; rfl) (by with_reducible exact Int.toNat_natCast _) ?_
    refine GL.loadF I0.mono rfl rfl (em_get (by omega)) rfl ?_
    refine GL.assign I0.mono (by conv => lhs; whnf) ?_
    refine GL.assign I0.mono (by conv => lhs; whnf) ?_
    refine GL.doneF ?_
    refine goOn ?_
    refine Wp.seqI ?_
    refine Wp.seqI ?_
    refine Wp.regI I0.mono ?_
    refine GL.move I0.mono (by conv => lhs; whnf) ?_
    refine GL.move I0.mono (by conv => lhs; whnf) ?_
    refine GL.look2 I0.mono rfl rfl rfl rfl rfl rfl rfl rfl rfl rfl ?_
    refine GL.move I0.mono (by conv => lhs; whnf) ?_
    refine GL.extract I0.mono rfl rfl ?_
    refine GL.extract I0.mono rfl rfl ?_
    refine GL.assign I0.mono (by conv => lhs; whnf) ?_
    refine GL.assign I0.mono (by conv => lhs; whnf) ?_
    refine GL.doneF ?_
    refine goOn ?_
    refine Wp.seqI ?_
    refine Wp.regI I0.mono ?_
    refine GL.move I0.mono (by conv => lhs; whnf) ?_
    refine GL.move I0.mono (by conv => lhs; whnf) ?_
    refine GL.splitAt 47 rfl (fun h47 => ?_) (fun h47 => ?_)
    ·rw [h47]
     skip
     refine GL.guardF rfl ?_
     refine GL.guardF rfl ?_
     refine GL.guardF rfl ?_
     refine GL.guardF rfl ?_
     refine GL.guardF rfl ?_
     refine GL.guardF rfl ?_
     refine GL.pick I0.mono rfl (by conv => lhs; whnf) ?_
     refine GL.doneF ?_
     refine goOn ?_
     refine Wp.condT rfl ?_
     refine Wp.seqI ?_
     refine Wp.regI I0.mono ?_
     refine GL.buildS I0.mono (z := [LV.nils, LV.nils, LV.int .i64 0, LV.int .i64 0]) (cs := [_, _, _, _]) (n := 4) rfl rfl rfl (EvS.nil) rfl rfl ?_
     refine GL.storeW I0.mono (n := 4) rfl rfl rfl rfl rfl rfl rfl (by conv => lhs; whnf) rfl rfl rfl ?_
     refine GL.assign I0.mono (by conv => lhs; whnf) ?_
     refine GL.doneF ?_
     refine goOn ?_
     refine Wp.retI ?_
     refine thenX.ret ?_
     refine blockX.ret ?_
     refine thenX.ret ?_
     refine thenX.ret ?_
     refine blockX.ret ?_
     refine thenX.ret ?_
     refine RetX.ret ?_
     refine ⟨_, _, _, _, .cons (.cellA (n := 4) rfl rfl rfl (by simp) rfl rfl rfl (Nat.le_of_ble_eq_true rfl)) (.cons (.tmp rfl) .nil), .tup (.aggc (.aggc (by exact Exp.nils (sz := 1)) (.aggc (by exact Exp.nils (sz := 1)) (.aggc (.frz (.pure rfl)) (.aggc (.frz (.pure rfl)) .aggn)))) (.aggc (.frz (.pure rfl)) .aggn)), (by decide), by simp, ?_⟩
     first
     | (rw [eval_out (by exact .inr (.inr (order_bad (k := k) (by omega) (by exact .inr h47))))]; rfl)
     | (rw [eval_lose hb hcar.1 hcar.2 (.inl ⟨k, by omega, fun hF => by obtain ⟨q1, q2, q3⟩ := hF; unfold carAt stopAt at q1; unfold carAt at q3; omega⟩)]; rfl)
     | (rw [eval_lose hb hcar.1 hcar.2 (.inr h214)]; rfl)
     | (rw [eval_win hb hcar.1 hcar.2 hrl hord hi.2 h214]; rfl)
    ·rw [h47]
     skip
     refine GL.guardT rfl ?_
     refine GL.move I0.mono (by conv => lhs; whnf) ?_
     refine GL.guardT rfl ?_
     refine GL.fieldAddr I0.mono (o := 1) rfl rfl rfl rfl (by conv => lhs; whnf) ?_
     refine GL.guardT rfl ?_
     refine GL.load I0.mono rfl rfl rfl rfl (by simp) rfl rfl ?_
     refine GL.guardT rfl ?_
     refine GL.lenF I0.mono rfl rfl (em_len _ _) ?_
     refine GL.guardT rfl ?_
     refine GL.call0 I0.mono rfl (Frz.aggc (by exact Frz.pure rfl) (Frz.aggc (by exact Frz.pure rfl) (Frz.aggc (by exact Frz.pure rfl) (Frz.aggn)))) (between_ok _ _ _) rfl rfl (fun _ => rfl) ?_
     refine GL.guardT rfl ?_
     refine GL.un I0.mono rfl ?_
     refine GL.pick I0.mono rfl (by conv => lhs; whnf) ?_
     refine GL.doneF ?_
     refine goOn ?_
     refine Wp.condI rfl (fun h54 => ?_) (fun h54 => ?_)
     ·skip
      refine Wp.seqI ?_
      refine Wp.regI I0.mono ?_
      refine GL.buildS I0.mono (z := [LV.nils, LV.nils, LV.int .i64 0, LV.int .i64 0]) (cs := [_, _, _, _]) (n := 4) rfl rfl rfl (EvS.nil) rfl rfl ?_
      refine GL.storeW I0.mono (n := 4) rfl rfl rfl rfl rfl rfl rfl (by conv => lhs; whnf) rfl rfl rfl ?_
      refine GL.assign I0.mono (by conv => lhs; whnf) ?_
      refine GL.doneF ?_
      refine goOn ?_
      refine Wp.retI ?_
      refine thenX.ret ?_
      refine blockX.ret ?_
      refine thenX.ret ?_
      refine thenX.ret ?_
      refine blockX.ret ?_
      refine thenX.ret ?_
      refine RetX.ret ?_
      refine ⟨_, _, _, _, .cons (.cellA (n := 4) rfl rfl rfl (by simp) rfl rfl rfl (Nat.le_of_ble_eq_true rfl)) (.cons (.tmp rfl) .nil), .tup (.aggc (.aggc (by exact Exp.nils (sz := 1)) (.aggc (by exact Exp.nils (sz := 1)) (.aggc (.frz (.pure rfl)) (.aggc (.frz (.pure rfl)) .aggn)))) (.aggc (.frz (.pure rfl)) .aggn)), (by decide), by simp, ?_⟩
      first
      | (rw [eval_out (by exact .inr (.inr (order_bad (k := k) (by omega) (by exact .inl (nb_f h54)))))]; rfl)
      | (rw [eval_lose hb hcar.1 hcar.2 (.inl ⟨k, by omega, fun hF => by obtain ⟨q1, q2, q3⟩ := hF; unfold carAt stopAt at q1; unfold carAt at q3; omega⟩)]; rfl)
      | (rw [eval_lose hb hcar.1 hcar.2 (.inr h214)]; rfl)
      | (rw [eval_win hb hcar.1 hcar.2 hrl hord hi.2 h214]; rfl)
     ·skip
      refine Wp.skipI ?_
      refine goOn ?_
      refine Wp.regI I0.mono ?_
      refine GL.move I0.mono (by conv => lhs; whnf) ?_
      refine GL.move I0.mono (by conv => lhs; whnf) ?_
      refine GL.move I0.mono (by conv => lhs; whnf) ?_
      refine GL.mapPut I0.mono rfl rfl rfl rfl rfl rfl rfl rfl rfl rfl rfl (has_false h47) (by rw [List.length_take]; omega) ?_
      rw [take_snoc (show k < r.length by omega)]
      refine GL.doneF ?_
      refine blockX.normal ?_
      refine goOn ?_
      refine Wp.regI I0.mono ?_
      refine GL.addR I0.mono rfl rfl (by omega) ?_
      refine GL.move I0.mono (by conv => lhs; whnf) ?_
      refine GL.doneF ?_
      refine ⟨k + 1, (by dsimp only; omega), _, (LessS.weak (LessS.upd (LessS.upd (LessS.upd (LessS.upd (LessS.upd (LessS.upd (LessS.upd (LessS.upd (LessS.upd (LessS.nil _) rfl) rfl) rfl) rfl) rfl) rfl) rfl) rfl) rfl) _), ⟨by omega, all_snoc hv (nb_t h54), all_snoc hdd h47⟩, _, (congrArg (St.mk _) (effM_eq (Has.cons rfl (Has.cons rfl (Has.cons rfl Has.nil)))).symm)⟩
   ·replace h36 := of_decide_eq_false h36
    obtain rfl : k = r.length := by omega
    have ht : r.take r.length = r := List.take_length
    rw [ht]
    refine Wp.exitI ?_
    refine thenX.exit ?_
    refine thenX.exit ?_
    refine blockX.out ?_
    refine goOn ?_
    refine Wp.seqI ?_
    refine Wp.seqI ?_
    refine Wp.regI I0.mono ?_
    refine GL.fieldAddr I0.mono (o := 2) rfl rfl rfl rfl (by conv => lhs; whnf) ?_
    refine GL.load I0.mono rfl rfl rfl rfl (by simp) rfl rfl ?_
    refine GL.lenF I0.mono rfl rfl (em_len _ _) ?_
    refine GL.move I0.mono (by conv => lhs; whnf) ?_
    refine GL.doneF ?_
    refine goOn ?_
    refine Wp.blockI ?_
    refine Wp.loopI I0.mono (α := Nat) (fun q st => (q ≤ I.pairs.length ∧ ∀ j, j < q → POk r (I.pairs.getD j default)) ∧ ∃ m0, st = ⟨(updS (updS (updS (updS (updS (updS (updS (updS (updS (fun _ => LV.undef) 1 (.int .i64 car)) 2 (.sl (em ni r))) 3 (.ref 192 g3 0 0)) 6 (.ref 384 g6 0 0)) 7 (.bool false)) 8 (.mref 2048 g32)) 61 (.sl (em np I.pairs))) 62 (.int .i64 (I.pairs.length : Int))) 63 (.int .i64 (q : Int))), effM m0 [(192, ⟨g3, false, .var, 4, [ic I]⟩), (384, ⟨g6, false, .var, 4, [[.nils, .nils, .int .i64 0, .int .i64 0]]⟩), (2048, ⟨g32, false, .mp, 2, ents 0 r⟩)]⟩) (fun q => I.pairs.length - q) 0 ⟨_, (LessS.weak (LessS.upd (LessS.upd (LessS.upd (LessS.upd (LessS.upd (LessS.upd (LessS.upd (LessS.upd (LessS.upd (LessS.nil _) rfl) rfl) rfl) rfl) rfl) rfl) rfl) rfl) rfl) _), ⟨Nat.zero_le _, fun j h => absurd h (Nat.not_lt_zero _)⟩, _, (congrArg (St.mk _) (effM_eq (Has.cons rfl (Has.cons rfl (Has.cons rfl Has.nil)))).symm)⟩ ?_
    rintro q _ ⟨hq, m0, rfl⟩
    have hq1 := hq.1
    have hpl := hb.sq.short.pairs
    unfold Short at hpl
    refine Wp.seqI ?_
    refine Wp.regI I0.mono ?_
    refine GL.bin I0.mono rfl ?_
    refine GL.doneF ?_
    refine goOn ?_
    refine Wp.seqI ?_
    refine Wp.condI rfl (fun h64 => ?_) (fun h64 => ?_)
    ·replace h64 := of_decide_eq_true h64
     refine Wp.skipI ?_
     refine goOn ?_
     refine Wp.seqI ?_
     refine Wp.blockI ?_
     refine Wp.seqI ?_
     refine Wp.regI I0.mono ?_
     refine GL.indexAddrF I0.mono (sz := 2) rfl rfl rfl rfl (by omega) (by (rw [em_len]; omega)) (by intro e he; obtain ⟨a, -, rfl⟩ := List.mem_map.1 he; rfl) (by with_reducible exact Int.toNat_natCast _) ?_
     refine GL.loadFW I0.mono (n := 2) rfl rfl (em_get (by omega)) rfl rfl ?_
     refine GL.alloc I0.mono (cs := [LV.int .i64 0, LV.int .i64 0]) rfl rfl ?_
     intro g14
     refine GL.storeW I0.mono (n := 2) rfl rfl rfl rfl rfl rfl rfl (by conv => lhs; whnf) rfl rfl rfl ?_
     refine GL.doneF ?_
     refine goOn ?_
     refine Wp.seqI ?_
     refine Wp.regI I0.mono ?_
     refine GL.move I0.mono (by conv => lhs; whnf) ?_
     refine GL.indexAddrA I0.mono (sz := 1) (len := 2) rfl rfl rfl rfl rfl rfl (by decide) (by decide) (by conv => lhs; whnf) ?_
     refine GL.load I0.mono rfl rfl rfl rfl (by simp) rfl rfl ?_
     refine GL.look2 I0.mono rfl rfl rfl rfl rfl rfl rfl rfl rfl rfl ?_
     refine GL.move I0.mono (by conv => lhs; whnf) ?_
     refine GL.extract I0.mono rfl rfl ?_
     refine GL.extract I0.mono rfl rfl ?_
     refine GL.assign I0.mono (by conv => lhs; whnf) ?_
     refine GL.assign I0.mono (by conv => lhs; whnf) ?_
     refine GL.doneF ?_
     refine goOn ?_
     refine Wp.seqI ?_
     refine Wp.regI I0.mono ?_
     refine GL.move I0.mono (by conv => lhs; whnf) ?_
     refine GL.indexAddrA I0.mono (sz := 1) (len := 2) rfl rfl rfl rfl rfl rfl (by decide) (by decide) (by conv => lhs; whnf) ?_
     refine GL.load I0.mono rfl rfl rfl rfl (by simp) rfl rfl ?_
     refine GL.look2 I0.mono rfl rfl rfl rfl rfl rfl rfl rfl rfl rfl ?_
     refine GL.move I0.mono (by conv => lhs; whnf) ?_
     refine GL.extract I0.mono rfl rfl ?_
     refine GL.extract I0.mono rfl rfl ?_
     refine GL.assign I0.mono (by conv => lhs; whnf) ?_
     refine GL.assign I0.mono (by conv => lhs; whnf) ?_
     refine GL.doneF ?_
     refine goOn ?_
     refine Wp.seqI ?_
     refine Wp.regI I0.mono ?_
     refine GL.move I0.mono (by conv => lhs; whnf) ?_
     refine GL.move I0.mono (by conv => lhs; whnf) ?_
     refine GL.bin I0.mono rfl ?_
     refine GL.move I0.mono (by conv => lhs; whnf) ?_
     refine GL.splitAt 84 rfl (fun h84 => ?_) (fun h84 => ?_)
     ·rw [h84]
      skip
      refine GL.guardF rfl ?_
      refine GL.guardF rfl ?_
      refine GL.guardF rfl ?_
      refine GL.guardF rfl ?_
      refine GL.guardF rfl ?_
      refine GL.guardF rfl ?_
      refine GL.pick I0.mono rfl (by conv => lhs; whnf) ?_
      refine GL.doneF ?_
      refine goOn ?_
      refine Wp.condT rfl ?_
      refine Wp.seqI ?_
      refine Wp.regI I0.mono ?_
      refine GL.buildS I0.mono (z := [LV.nils, LV.nils, LV.int .i64 0, LV.int .i64 0]) (cs := [_, _, _, _]) (n := 4) rfl rfl rfl (EvS.nil) rfl rfl ?_
      refine GL.storeW I0.mono (n := 4) rfl rfl rfl rfl rfl rfl rfl (by conv => lhs; whnf) rfl rfl rfl ?_
      refine GL.assign I0.mono (by conv => lhs; whnf) ?_
      refine GL.doneF ?_
      refine goOn ?_
      refine Wp.retI ?_
      refine blockX.ret ?_
      refine thenX.ret ?_
      refine thenX.ret ?_
      refine blockX.ret ?_
      refine thenX.ret ?_
      refine RetX.ret ?_
      refine ⟨_, _, _, _, .cons (.cellA (n := 4) rfl rfl rfl (by simp) rfl rfl rfl (Nat.le_of_ble_eq_true rfl)) (.cons (.tmp rfl) .nil), .tup (.aggc (.aggc (by exact Exp.nils (sz := 1)) (.aggc (by exact Exp.nils (sz := 1)) (.aggc (.frz (.pure rfl)) (.aggc (.frz (.pure rfl)) .aggn)))) (.aggc (.frz (.pure rfl)) .aggn)), (by decide), by simp, ?_⟩
      first
      | (rw [eval_out (by exact .inr (.inr (order_bad_pair hp (pairs_mem (k := q) (by omega)) (by exact pok_not1 h84))))]; rfl)
      | (rw [eval_lose hb hcar.1 hcar.2 (.inl ⟨k, by omega, fun hF => by obtain ⟨q1, q2, q3⟩ := hF; unfold carAt stopAt at q1; unfold carAt at q3; omega⟩)]; rfl)
      | (rw [eval_lose hb hcar.1 hcar.2 (.inr h214)]; rfl)
      | (rw [eval_win hb hcar.1 hcar.2 hrl hord hi.2 h214]; rfl)
     ·rw [h84]
      skip
      refine GL.guardT rfl ?_
      refine GL.move I0.mono (by conv => lhs; whnf) ?_
      refine GL.guardT rfl ?_
      refine GL.move I0.mono (by conv => lhs; whnf) ?_
      refine GL.splitAt 86 rfl (fun h86 => ?_) (fun h86 => ?_)
      ·rw [h86]
       skip
       refine GL.guardT rfl ?_
       refine GL.move I0.mono (by conv => lhs; whnf) ?_
       refine GL.guardT rfl ?_
       refine GL.move I0.mono (by conv => lhs; whnf) ?_
       refine GL.guardT rfl ?_
       refine GL.bin I0.mono rfl ?_
       refine GL.guardT rfl ?_
       refine GL.pick I0.mono rfl (by conv => lhs; whnf) ?_
       refine GL.pick I0.mono rfl (by conv => lhs; whnf) ?_
       refine GL.doneF ?_
       refine goOn ?_
       refine Wp.condI rfl (fun h91 => ?_) (fun h91 => ?_)
       ·replace h91 := of_decide_eq_true h91
        refine Wp.seqI ?_
        refine Wp.regI I0.mono ?_
        refine GL.buildS I0.mono (z := [LV.nils, LV.nils, LV.int .i64 0, LV.int .i64 0]) (cs := [_, _, _, _]) (n := 4) rfl rfl rfl (EvS.nil) rfl rfl ?_
        refine GL.storeW I0.mono (n := 4) rfl rfl rfl rfl rfl rfl rfl (by conv => lhs; whnf) rfl rfl rfl ?_
        refine GL.assign I0.mono (by conv => lhs; whnf) ?_
        refine GL.doneF ?_
        refine goOn ?_
        refine Wp.retI ?_
        refine blockX.ret ?_
        refine thenX.ret ?_
        refine thenX.ret ?_
        refine blockX.ret ?_
        refine thenX.ret ?_
        refine RetX.ret ?_
        refine ⟨_, _, _, _, .cons (.cellA (n := 4) rfl rfl rfl (by simp) rfl rfl rfl (Nat.le_of_ble_eq_true rfl)) (.cons (.tmp rfl) .nil), .tup (.aggc (.aggc (by exact Exp.nils (sz := 1)) (.aggc (by exact Exp.nils (sz := 1)) (.aggc (.frz (.pure rfl)) (.aggc (.frz (.pure rfl)) .aggn)))) (.aggc (.frz (.pure rfl)) .aggn)), (by decide), by simp, ?_⟩
        first
        | (rw [eval_out (by exact .inr (.inr (order_bad_pair hp (pairs_mem (k := q) (by omega)) (by exact pok_not2 h84 h86 h91))))]; rfl)
        | (rw [eval_lose hb hcar.1 hcar.2 (.inl ⟨k, by omega, fun hF => by obtain ⟨q1, q2, q3⟩ := hF; unfold carAt stopAt at q1; unfold carAt at q3; omega⟩)]; rfl)
        | (rw [eval_lose hb hcar.1 hcar.2 (.inr h214)]; rfl)
        | (rw [eval_win hb hcar.1 hcar.2 hrl hord hi.2 h214]; rfl)
       ·replace h91 := of_decide_eq_false h91
        refine Wp.skipI ?_
        refine blockX.normal ?_
        refine goOn ?_
        refine Wp.regI I0.mono ?_
        refine GL.addR I0.mono rfl rfl (by omega) ?_
        refine GL.move I0.mono (by conv => lhs; whnf) ?_
        refine GL.doneF ?_
        refine ⟨q + 1, (by dsimp only; omega), _, (LessS.weak (LessS.upd (LessS.upd (LessS.upd (LessS.upd (LessS.upd (LessS.upd (LessS.upd (LessS.upd (LessS.upd (LessS.nil _) rfl) rfl) rfl) rfl) rfl) rfl) rfl) rfl) rfl) _), ⟨by omega, all_snoc hq.2 (by exact pok_both h84 h86 h91)⟩, _, (congrArg (St.mk _) (effM_eq (Has.cons rfl (Has.cons rfl (Has.cons rfl Has.nil)))).symm)⟩
      ·rw [h86]
       skip
       refine GL.guardF rfl ?_
       refine GL.guardF rfl ?_
       refine GL.guardF rfl ?_
       refine GL.guardT rfl ?_
       refine GL.pick I0.mono rfl (by conv => lhs; whnf) ?_
       refine GL.pick I0.mono rfl (by conv => lhs; whnf) ?_
       refine GL.doneF ?_
       refine goOn ?_
       refine Wp.condF rfl ?_
       refine Wp.skipI ?_
       refine blockX.normal ?_
       refine goOn ?_
       refine Wp.regI I0.mono ?_
       refine GL.addR I0.mono rfl rfl (by omega) ?_
       refine GL.move I0.mono (by conv => lhs; whnf) ?_
       refine GL.doneF ?_
       refine ⟨q + 1, (by dsimp only; omega), _, (LessS.weak (LessS.upd (LessS.upd (LessS.upd (LessS.upd (LessS.upd (LessS.upd (LessS.upd (LessS.upd (LessS.upd (LessS.nil _) rfl) rfl) rfl) rfl) rfl) rfl) rfl) rfl) rfl) _), ⟨by omega, all_snoc hq.2 (by exact pok_none h84 h86)⟩, _, (congrArg (St.mk _) (effM_eq (Has.cons rfl (Has.cons rfl (Has.cons rfl Has.nil)))).symm)⟩
    ·replace h64 := of_decide_eq_false h64
     obtain rfl : q = I.pairs.length := by omega
     have hord : order I r = true := order_pairs hp hv hdd (pairs_all hq.2)
     refine Wp.exitI ?_
     refine thenX.exit ?_
     refine thenX.exit ?_
     refine blockX.out ?_
     refine goOn ?_
     refine Wp.seqI ?_
     refine Wp.regI I0.mono ?_
     refine GL.fieldAddr I0.mono (o := 0) rfl rfl rfl rfl (by conv => lhs; whnf) ?_
     refine GL.load I0.mono rfl rfl rfl rfl (by simp) rfl rfl ?_
     refine GL.move I0.mono (by conv => lhs; whnf) ?_
     refine GL.indexAddrF I0.mono (sz := 3) rfl rfl rfl rfl (by omega) (by (rw [em_len]; omega)) (by intro e he; obtain ⟨a, -, rfl⟩ := List.mem_map.1 he; rfl) (by rfl) ?_
     refine GL.fieldAddrF I0.mono (o := 1) rfl rfl (by conv => lhs; whnf) ?_
     refine GL.loadF I0.mono rfl rfl (em_get (by omega)) rfl ?_
     refine GL.buildS I0.mono (z := [LV.nils, LV.nils, LV.int .i64 0, LV.int .i64 0]) (cs := [_, _, _, _]) (n := 4) rfl rfl rfl (EvS.cons (by conv => lhs; whnf) (EvS.nil)) rfl rfl ?_
     refine GL.alloc I0.mono (cs := [LV.nils, LV.nils, LV.int .i64 0, LV.int .i64 0]) rfl rfl ?_
     intro g19
     refine GL.storeW I0.mono (n := 4) rfl rfl rfl rfl rfl rfl rfl (by conv => lhs; whnf) rfl rfl rfl ?_
     refine GL.doneF ?_
     refine goOn ?_
     refine Wp.seqI ?_
     refine Wp.regI I0.mono ?_
     refine GL.fieldAddr I0.mono (o := 0) rfl rfl rfl rfl (by conv => lhs; whnf) ?_
     refine GL.load I0.mono rfl rfl rfl rfl (by simp) rfl rfl ?_
     refine GL.move I0.mono (by conv => lhs; whnf) ?_
     refine GL.indexAddrF I0.mono (sz := 3) rfl rfl rfl rfl (by omega) (by (rw [em_len]; omega)) (by intro e he; obtain ⟨a, -, rfl⟩ := List.mem_map.1 he; rfl) (by rfl) ?_
     refine GL.fieldAddrF I0.mono (o := 1) rfl rfl (by conv => lhs; whnf) ?_
     refine GL.loadF I0.mono rfl rfl (em_get (by omega)) rfl ?_
     refine GL.assign I0.mono (by conv => lhs; whnf) ?_
     refine GL.assign I0.mono (by conv => lhs; whnf) ?_
     refine GL.assign I0.mono (by conv => lhs; whnf) ?_
     refine GL.doneF ?_
     refine goOn ?_
     refine Wp.seqI ?_
     refine Wp.seqI ?_
     refine Wp.regI I0.mono ?_
     refine GL.move I0.mono (by conv => lhs; whnf) ?_
     refine GL.lenF I0.mono rfl rfl (em_len _ _) ?_
     refine GL.move I0.mono (by conv => lhs; whnf) ?_
     refine GL.doneF ?_
     refine goWeak (Weak.trans (Weak.nilCell (n := 1216) (c := 0) 700001 1 rfl rfl rfl rfl rfl rfl) (Weak.nilCell (n := 1216) (c := 1) 700002 1 rfl rfl rfl rfl rfl rfl)) ?_
     refine Wp.blockI ?_
     refine Wp.loopI I0.mono (α := Nat × Nat × Nat) (fun ⟨k, ga, gb⟩ st => (k ≤ r.length ∧ ∀ j, j < k → Fin1 I (I.cars.getD car.toNat default) r j) ∧ ∃ m0, st = ⟨(updS (updS (updS (updS (updS (updS (updS (updS (updS (updS (updS (updS (fun _ => LV.undef) 1 (.int .i64 car)) 2 (.sl (em ni r))) 3 (.ref 192 g3 0 0)) 6 (.ref 384 g6 0 0)) 7 (.bool false)) 19 (.ref 1216 g19 0 0)) 20 (.int .i64 (lv I 0 (I.cars.getD car.toNat default).c1 (r.take k)))) 21 (.int .i64 (ld I 0 (r.take k)))) 22 (.int .i64 (lastOf 0 (r.take k)))) 107 (.sl (em ni r))) 108 (.int .i64 (r.length : Int))) 109 (.int .i64 (k : Int))), effM m0 [(192, ⟨g3, false, .var, 4, [ic I]⟩), (384, ⟨g6, false, .var, 4, [[.nils, .nils, .int .i64 0, .int .i64 0]]⟩), (1216, ⟨g19, false, .var, 4, [[.own 700001 ga 0 k none, .own 700002 gb 0 k none, .int .i64 (legs I 0 (r.take k)), .int .i64 (I.cars.getD car.toNat default).c1]]⟩), (700001, ⟨ga, false, .slc, 1, em ni (arr I 0 (I.cars.getD car.toNat default).c1 (r.take k))⟩), (700002, ⟨gb, false, .slc, 1, em ni (lds I 0 (r.take k))⟩)]⟩) (fun ⟨k, ga, gb⟩ => r.length - k) ⟨0, _, _⟩ ⟨_, (LessS.weak (LessS.upd (LessS.upd (LessS.upd (LessS.upd (LessS.upd (LessS.upd (LessS.upd (LessS.upd (LessS.upd (LessS.upd (LessS.upd (LessS.upd (LessS.nil _) rfl) rfl) rfl) rfl) rfl) rfl) rfl) rfl) rfl) rfl) rfl) rfl) _), ⟨Nat.zero_le _, fun j h => absurd h (Nat.not_lt_zero _)⟩, _, (congrArg (St.mk _) (effM_eq (Has.cons rfl (Has.cons rfl (Has.cons rfl (Has.cons rfl (Has.cons rfl Has.nil)))))).symm)⟩ ?_
     rintro ⟨k, ga, gb⟩ _ ⟨hi, m0, rfl⟩
     have hi1 := hi.1
     have hR := run_at hb (c := (I.cars.getD car.toNat default)) (by omega) hrl hv hi.1 hi.2
     have r1 := hR.l0
     have r2 := hR.l1
     have r3 := hR.v0
     have r4 := hR.v1
     have r5 := hR.d0
     have r6 := hR.d1
     have r7 := hR.g0
     have r8 := hR.g1
     have r9 := hR.row
     refine Wp.seqI ?_
     refine Wp.regI I0.mono ?_
     refine GL.bin I0.mono rfl ?_
     refine GL.doneF ?_
     refine goOn ?_
     refine Wp.seqI ?_
     refine Wp.condI rfl (fun h110 => ?_) (fun h110 => ?_)
     ·replace h110 := of_decide_eq_true h110
      have hx := isStop_le (hv k (by omega))
      obtain ⟨s1, s2, s3, s4, s5, s6, s7⟩ := hb.at (hv k (by omega))
      have hcl := hb.sq.cell_in hR.l0 hR.l1 (b := r.getD k default) (by omega) (by omega)
      have d7 := ld_take I r 0 k (by omega)
      have d8 := lv_take I r 0 (I.cars.getD car.toNat default).c1 k (by omega)
      unfold Mv.goes at d8
      have d9 := lastOf_take r 0 k (by omega)
      have d10 := legs_take I r 0 k (by omega)
      have hmx := imax_ge (stopAt I (r.getD k default)).s1 ((lv I 0 (I.cars.getD car.toNat default).c1 (r.take k)) + Mv.cell I (lastOf 0 (r.take k)) (r.getD k default))
      have hbg : (Mv.begun I (lastOf 0 (r.take k)) (lv I 0 (I.cars.getD car.toNat default).c1 (r.take k)) (r.getD k default)) = imax (stopAt I (r.getD k default)).s1 ((lv I 0 (I.cars.getD car.toNat default).c1 (r.take k)) + Mv.cell I (lastOf 0 (r.take k)) (r.getD k default)) := rfl
      unfold Mv.cell at hcl d10 hmx hbg
      unfold stopAt at s1 s2 s3 s4 s5 s6 s7 d7 d8 hmx hbg
      refine Wp.skipI ?_
      refine goOn ?_
      refine Wp.seqI ?_
      refine Wp.blockI ?_
      refine Wp.seqI ?_
      refine Wp.regI I0.mono ?_
      refine GL.indexAddrF I0.mono (sz := 1) rfl rfl rfl rfl (by omega) (by (rw [em_len]; omega)) (by intro e he; obtain ⟨a, -, rfl⟩ := List.mem_map.1 he; rfl) (by with_reducible exact Int.toNat_natCast _) ?_
      refine GL.loadF I0.mono rfl rfl (em_get (by omega)) rfl ?_
      refine GL.assign I0.mono (by conv => lhs; whnf) ?_
      refine GL.doneF ?_
      refine goOn ?_
      refine Wp.seqI ?_
      refine Wp.regI I0.mono ?_
      refine GL.fieldAddr I0.mono (o := 1) rfl rfl rfl rfl (by conv => lhs; whnf) ?_
      refine GL.load I0.mono rfl rfl rfl rfl (by simp) rfl rfl ?_
      refine GL.move I0.mono (by conv => lhs; whnf) ?_
      refine GL.subR I0.mono rfl rfl (by omega) ?_
      refine GL.indexAddrF I0.mono (sz := 4) rfl rfl rfl rfl (by omega) (by (rw [em_len]; omega)) (by intro e he; obtain ⟨a, -, rfl⟩ := List.mem_map.1 he; rfl) (by rfl) ?_
      refine GL.loadFW I0.mono (n := 4) rfl rfl (em_get (by omega)) rfl rfl ?_
      refine GL.alloc I0.mono (cs := [LV.int .i64 0, LV.int .i64 0, LV.int .i64 0, LV.int .i64 0]) rfl rfl ?_
      intro g25
      refine GL.storeW I0.mono (n := 4) rfl rfl rfl rfl rfl rfl rfl (by conv => lhs; whnf) rfl rfl rfl ?_
      refine GL.doneF ?_
      refine goOn ?_
      refine Wp.seqI ?_
      refine Wp.regD ?_
      refine GL.move I0.mono (by conv => lhs; whnf) ?_
      refine GL.fieldAddr I0.mono (o := 3) rfl rfl rfl rfl (by conv => lhs; whnf) ?_
      refine GL.load I0.mono rfl rfl rfl rfl (by simp) rfl rfl ?_
      refine GL.move I0.mono (by conv => lhs; whnf) ?_
      refine GL.indexAddrF I0.mono (sz := 1) rfl rfl rfl rfl (by omega) (by (rw [em_len]; omega)) (by intro e he; obtain ⟨a, -, rfl⟩ := List.mem_map.1 he; rfl) (by rfl) ?_
      refine GL.loadF I0.mono rfl rfl (em_get (by omega)) rfl ?_
      refine GL.move I0.mono (by conv => lhs; whnf) ?_
      refine GL.indexAddrF I0.mono (sz := 1) rfl rfl rfl rfl (by omega) (by (rw [em_len]; omega)) (by intro e he; obtain ⟨a, -, rfl⟩ := List.mem_map.1 he; rfl) (by rfl) ?_
      refine GL.loadF I0.mono rfl rfl (em_get (by omega)) rfl ?_
      refine GL.addR I0.mono rfl rfl (by omega) ?_
      refine GL.fieldAddr I0.mono (o := 1) rfl rfl rfl rfl (by conv => lhs; whnf) ?_
      refine GL.load I0.mono rfl rfl rfl rfl (by simp) rfl rfl ?_
      refine GL.max I0.mono (v := .int .i64 (Mv.begun I (lastOf 0 (r.take k)) (lv I 0 (I.cars.getD car.toNat default).c1 (r.take k)) (r.getD k default))) (congrArg (fun z => some (LV.int .i64 z)) (imax_comm _ _)) ?_
      refine GL.assign I0.mono (by conv => lhs; whnf) ?_
      refine GL.doneT (by kernel_rfl) ?_
      refine goOn ?_
      refine Wp.seqI ?_
      refine Wp.regI I0.mono ?_
      refine GL.move I0.mono (by conv => lhs; whnf) ?_
      refine GL.fieldAddr I0.mono (o := 0) rfl rfl rfl rfl (by conv => lhs; whnf) ?_
      refine GL.load I0.mono rfl rfl rfl rfl (by simp) rfl rfl ?_
      refine GL.addR I0.mono rfl rfl (by omega) ?_
      refine GL.assign I0.mono (by conv => lhs; whnf) ?_
      refine GL.doneF ?_
      refine goOn ?_
      refine Wp.seqI ?_
      refine Wp.seqI ?_
      refine Wp.regI I0.mono ?_
      refine GL.move I0.mono (by conv => lhs; whnf) ?_
      refine GL.fieldAddr I0.mono (o := 2) rfl rfl rfl rfl (by conv => lhs; whnf) ?_
      refine GL.load I0.mono rfl rfl rfl rfl (by simp) rfl rfl ?_
      refine GL.bin I0.mono rfl ?_
      refine GL.move I0.mono (by conv => lhs; whnf) ?_
      refine GL.splitAt 140 rfl (fun h140 => ?_) (fun h140 => ?_)
      ·rw [h140]
       replace h140 := of_decide_eq_true h140
       refine GL.guardF rfl ?_
       refine GL.guardF rfl ?_
       refine GL.pick I0.mono rfl (by conv => lhs; whnf) ?_
       refine GL.move I0.mono (by conv => lhs; whnf) ?_
       refine GL.guardF rfl ?_
       refine GL.guardF rfl ?_
       refine GL.guardF rfl ?_
       refine GL.guardF rfl ?_
       refine GL.guardF rfl ?_
       refine GL.guardF rfl ?_
       refine GL.guardF rfl ?_
       refine GL.guardF rfl ?_
       refine GL.pick I0.mono rfl (by conv => lhs; whnf) ?_
       refine GL.doneF ?_
       refine goOn ?_
       refine Wp.condT rfl ?_
       refine Wp.seqI ?_
       refine Wp.regI I0.mono ?_
       refine GL.buildS I0.mono (z := [LV.nils, LV.nils, LV.int .i64 0, LV.int .i64 0]) (cs := [_, _, _, _]) (n := 4) rfl rfl rfl (EvS.nil) rfl rfl ?_
       refine GL.storeW I0.mono (n := 4) rfl rfl rfl rfl rfl rfl rfl (by conv => lhs; whnf) rfl rfl rfl ?_
       refine GL.assign I0.mono (by conv => lhs; whnf) ?_
       refine GL.doneF ?_
       refine goOn ?_
       refine Wp.retI ?_
       refine thenX.ret ?_
       refine blockX.ret ?_
       refine thenX.ret ?_
       refine thenX.ret ?_
       refine blockX.ret ?_
       refine thenX.ret ?_
       refine RetX.ret ?_
       refine ⟨_, _, _, _, .cons (.cellA (n := 4) rfl rfl rfl (by simp) rfl rfl rfl (Nat.le_of_ble_eq_true rfl)) (.cons (.tmp rfl) .nil), .tup (.aggc (.aggc (by exact Exp.nils (sz := 1)) (.aggc (by exact Exp.nils (sz := 1)) (.aggc (.frz (.pure rfl)) (.aggc (.frz (.pure rfl)) .aggn)))) (.aggc (.frz (.pure rfl)) .aggn)), (by decide), by simp, ?_⟩
       first
       | (rw [eval_out (by first | exact .inr (.inr (order_bad (k := k) (by omega) (by first | exact .inr h47 | exact .inl (nb_f h54)))) | exact .inr (.inr (order_bad_pair hp (pairs_mem (k := q) (by omega)) (by first | exact pok_not1 h84 | exact pok_not2 h84 h86 h91))) | exact out_car h30)]; rfl)
       | (rw [eval_lose hb hcar.1 hcar.2 (.inl ⟨k, by omega, fun hF => by obtain ⟨q1, q2, q3⟩ := hF; unfold carAt stopAt at q1; unfold carAt at q3; omega⟩)]; rfl)
       | (rw [eval_lose hb hcar.1 hcar.2 (.inr h214)]; rfl)
       | (rw [eval_win hb hcar.1 hcar.2 hrl hord hi.2 h214]; rfl)
      ·rw [h140]
       replace h140 := of_decide_eq_false h140
       refine GL.guardT rfl ?_
       refine GL.move I0.mono (by conv => lhs; whnf) ?_
       refine GL.guardT rfl ?_
       refine GL.bin I0.mono rfl ?_
       refine GL.pick I0.mono rfl (by conv => lhs; whnf) ?_
       refine GL.move I0.mono (by conv => lhs; whnf) ?_
       refine GL.splitAt 144 rfl (fun h144 => ?_) (fun h144 => ?_)
       ·rw [h144]
        replace h144 := of_decide_eq_true h144
        refine GL.guardF rfl ?_
        refine GL.guardF rfl ?_
        refine GL.guardF rfl ?_
        refine GL.guardF rfl ?_
        refine GL.guardF rfl ?_
        refine GL.guardF rfl ?_
        refine GL.guardF rfl ?_
        refine GL.guardF rfl ?_
        refine GL.pick I0.mono rfl (by conv => lhs; whnf) ?_
        refine GL.doneF ?_
        refine goOn ?_
        refine Wp.condT rfl ?_
        refine Wp.seqI ?_
        refine Wp.regI I0.mono ?_
        refine GL.buildS I0.mono (z := [LV.nils, LV.nils, LV.int .i64 0, LV.int .i64 0]) (cs := [_, _, _, _]) (n := 4) rfl rfl rfl (EvS.nil) rfl rfl ?_
        refine GL.storeW I0.mono (n := 4) rfl rfl rfl rfl rfl rfl rfl (by conv => lhs; whnf) rfl rfl rfl ?_
        refine GL.assign I0.mono (by conv => lhs; whnf) ?_
        refine GL.doneF ?_
        refine goOn ?_
        refine Wp.retI ?_
        refine thenX.ret ?_
        refine blockX.ret ?_
        refine thenX.ret ?_
        refine thenX.ret ?_
        refine blockX.ret ?_
        refine thenX.ret ?_
        refine RetX.ret ?_
        refine ⟨_, _, _, _, .cons (.cellA (n := 4) rfl rfl rfl (by simp) rfl rfl rfl (Nat.le_of_ble_eq_true rfl)) (.cons (.tmp rfl) .nil), .tup (.aggc (.aggc (by exact Exp.nils (sz := 1)) (.aggc (by exact Exp.nils (sz := 1)) (.aggc (.frz (.pure rfl)) (.aggc (.frz (.pure rfl)) .aggn)))) (.aggc (.frz (.pure rfl)) .aggn)), (by decide), by simp, ?_⟩
        first
        | (rw [eval_out (by first | exact .inr (.inr (order_bad (k := k) (by omega) (by first | exact .inr h47 | exact .inl (nb_f h54)))) | exact .inr (.inr (order_bad_pair hp (pairs_mem (k := q) (by omega)) (by first | exact pok_not1 h84 | exact pok_not2 h84 h86 h91))) | exact out_car h30)]; rfl)
        | (rw [eval_lose hb hcar.1 hcar.2 (.inl ⟨k, by omega, fun hF => by obtain ⟨q1, q2, q3⟩ := hF; unfold carAt stopAt at q1; unfold carAt at q3; omega⟩)]; rfl)
        | (rw [eval_lose hb hcar.1 hcar.2 (.inr h214)]; rfl)
        | (rw [eval_win hb hcar.1 hcar.2 hrl hord hi.2 h214]; rfl)
       ·rw [h144]
        replace h144 := of_decide_eq_false h144
        refine GL.guardT rfl ?_
        refine GL.move I0.mono (by conv => lhs; whnf) ?_
        refine GL.guardT rfl ?_
        refine GL.fieldAddr I0.mono (o := 0) rfl rfl rfl rfl (by conv => lhs; whnf) ?_
        refine GL.guardT rfl ?_
        refine GL.load I0.mono rfl rfl rfl rfl (by simp) rfl rfl ?_
        refine GL.guardT rfl ?_
        refine GL.move I0.mono (by conv => lhs; whnf) ?_
        refine GL.guardT rfl ?_
        refine GL.indexAddrF I0.mono (sz := 3) rfl rfl rfl rfl (by omega) (by (rw [em_len]; omega)) (by intro e he; obtain ⟨a, -, rfl⟩ := List.mem_map.1 he; rfl) (by rfl) ?_
        refine GL.guardT rfl ?_
        refine GL.fieldAddrF I0.mono (o := 0) rfl rfl (by conv => lhs; whnf) ?_
        refine GL.guardT rfl ?_
        refine GL.loadF I0.mono rfl rfl (em_get (by omega)) rfl ?_
        refine GL.guardT rfl ?_
        refine GL.bin I0.mono rfl ?_
        refine GL.pick I0.mono rfl (by conv => lhs; whnf) ?_
        refine GL.doneF ?_
        refine goOn ?_
        refine Wp.condI rfl (fun h153 => ?_) (fun h153 => ?_)
        ·replace h153 := of_decide_eq_true h153
         refine Wp.seqI ?_
         refine Wp.regI I0.mono ?_
         refine GL.buildS I0.mono (z := [LV.nils, LV.nils, LV.int .i64 0, LV.int .i64 0]) (cs := [_, _, _, _]) (n := 4) rfl rfl rfl (EvS.nil) rfl rfl ?_
         refine GL.storeW I0.mono (n := 4) rfl rfl rfl rfl rfl rfl rfl (by conv => lhs; whnf) rfl rfl rfl ?_
         refine GL.assign I0.mono (by conv => lhs; whnf) ?_
         refine GL.doneF ?_
         refine goOn ?_
         refine Wp.retI ?_
         refine thenX.ret ?_
         refine blockX.ret ?_
         refine thenX.ret ?_
         refine thenX.ret ?_
         refine blockX.ret ?_
         refine thenX.ret ?_
         refine RetX.ret ?_
         refine ⟨_, _, _, _, .cons (.cellA (n := 4) rfl rfl rfl (by simp) rfl rfl rfl (Nat.le_of_ble_eq_true rfl)) (.cons (.tmp rfl) .nil), .tup (.aggc (.aggc (by exact Exp.nils (sz := 1)) (.aggc (by exact Exp.nils (sz := 1)) (.aggc (.frz (.pure rfl)) (.aggc (.frz (.pure rfl)) .aggn)))) (.aggc (.frz (.pure rfl)) .aggn)), (by decide), by simp, ?_⟩
         first
         | (rw [eval_out (by first | exact .inr (.inr (order_bad (k := k) (by omega) (by first | exact .inr h47 | exact .inl (nb_f h54)))) | exact .inr (.inr (order_bad_pair hp (pairs_mem (k := q) (by omega)) (by first | exact pok_not1 h84 | exact pok_not2 h84 h86 h91))) | exact out_car h30)]; rfl)
         | (rw [eval_lose hb hcar.1 hcar.2 (.inl ⟨k, by omega, fun hF => by obtain ⟨q1, q2, q3⟩ := hF; unfold carAt stopAt at q1; unfold carAt at q3; omega⟩)]; rfl)
         | (rw [eval_lose hb hcar.1 hcar.2 (.inr h214)]; rfl)
         | (rw [eval_win hb hcar.1 hcar.2 hrl hord hi.2 h214]; rfl)
        ·replace h153 := of_decide_eq_false h153
         refine Wp.skipI ?_
         refine goOn ?_
         refine Wp.seqI ?_
         refine Wp.regD ?_
         refine GL.fieldAddr I0.mono (o := 0) rfl rfl rfl rfl (by conv => lhs; whnf) ?_
         refine GL.load I0.mono rfl rfl rfl rfl (by simp) rfl rfl ?_
         refine GL.move I0.mono (by conv => lhs; whnf) ?_
         refine GL.buildSlice0 I0.mono (sz := 1) (z := [LV.int .i64 0]) rfl rfl rfl rfl (by decide) (by decide) (by decide) (FrzP.cons (S := []) (T := []) (Frz.aggc (S := []) (T := []) (Frz.pure rfl) Frz.aggn) rfl (by decide) rfl (FrzP.nil)) (by conv => lhs; simp only [fillE, List.replicate, List.map, pureC, List.set_cons_zero, List.set_cons_succ]) ?_
         intro g158
         refine GL.append1 I0.mono (f := ni) (v := (Mv.begun I (lastOf 0 (r.take k)) (lv I 0 (I.cars.getD car.toNat default).c1 (r.take k)) (r.getD k default))) (sz := 1) (z := [.int .i64 0]) rfl rfl rfl rfl rfl (by decide) (Nat.le_of_ble_eq_true rfl) rfl rfl rfl rfl rfl rfl rfl (by rw [arr_len]; simp; omega) rfl rfl rfl rfl rfl rfl rfl rfl (by omega) ?_
         rw [← arr_snoc, take_snoc (show k < r.length by omega)]
         refine GL.fieldAddr I0.mono (o := 1) rfl rfl rfl rfl (by conv => lhs; whnf) ?_
         refine GL.load I0.mono rfl rfl rfl rfl (by simp) rfl rfl ?_
         refine GL.move I0.mono (by conv => lhs; whnf) ?_
         refine GL.buildSlice0 I0.mono (sz := 1) (z := [LV.int .i64 0]) rfl rfl rfl rfl (by decide) (by decide) (by decide) (FrzP.cons (S := []) (T := []) (Frz.aggc (S := []) (T := []) (Frz.pure rfl) Frz.aggn) rfl (by decide) rfl (FrzP.nil)) (by conv => lhs; simp only [fillE, List.replicate, List.map, pureC, List.set_cons_zero, List.set_cons_succ]) ?_
         intro g163
         refine GL.append1 I0.mono (f := ni) (v := (ld I 0 (r.take k) + (stopAt I (r.getD k default)).s0)) (sz := 1) (z := [.int .i64 0]) rfl rfl rfl rfl rfl (by decide) (Nat.le_of_ble_eq_true rfl) rfl rfl rfl rfl rfl rfl rfl (by rw [lds_len]; simp; omega) rfl rfl rfl rfl rfl rfl rfl rfl (by omega) ?_
         rw [← lds_snoc, take_snoc (show k < r.length by omega)]
         refine GL.fieldAddr I0.mono (o := 2) rfl rfl rfl rfl (by conv => lhs; whnf) ?_
         refine GL.load I0.mono rfl rfl rfl rfl (by simp) rfl rfl ?_
         refine GL.fieldAddr I0.mono (o := 3) rfl rfl rfl rfl (by conv => lhs; whnf) ?_
         refine GL.load I0.mono rfl rfl rfl rfl (by simp) rfl rfl ?_
         refine GL.move I0.mono (by conv => lhs; whnf) ?_
         refine GL.indexAddrF I0.mono (sz := 1) rfl rfl rfl rfl (by omega) (by (rw [em_len]; omega)) (by intro e he; obtain ⟨a, -, rfl⟩ := List.mem_map.1 he; rfl) (by rfl) ?_
         refine GL.loadF I0.mono rfl rfl (em_get (by omega)) rfl ?_
         refine GL.move I0.mono (by conv => lhs; whnf) ?_
         refine GL.indexAddrF I0.mono (sz := 1) rfl rfl rfl rfl (by omega) (by (rw [em_len]; omega)) (by intro e he; obtain ⟨a, -, rfl⟩ := List.mem_map.1 he; rfl) (by rfl) ?_
         refine GL.loadF I0.mono rfl rfl (em_get (by omega)) rfl ?_
         refine GL.addR I0.mono rfl rfl (by omega) ?_
         rw [← d10]
         refine GL.fieldAddr I0.mono (o := 0) rfl rfl rfl rfl (by conv => lhs; whnf) ?_
         refine GL.store I0.mono (n := 1) rfl rfl rfl rfl rfl rfl rfl rfl rfl rfl (Nat.le_of_ble_eq_true rfl) (by (conv => lhs; simp only [List.take_succ_cons, List.take_zero, List.drop_succ_cons, List.drop_zero, List.nil_append, List.cons_append, List.drop_nil, List.append_nil, List.take_nil, List.set_cons_zero, List.set_cons_succ, Nat.zero_add, ni, nr, nc, ns, np, ic, nt, ei, cellsL])) (by (conv => lhs; simp only [List.take_succ_cons, List.take_zero, List.drop_succ_cons, List.drop_zero, List.nil_append, List.cons_append, List.drop_nil, List.append_nil, List.take_nil, List.set_cons_zero, List.set_cons_succ, Nat.zero_add, ni, nr, nc, ns, np, ic, nt, ei, cellsL])) ?_
         refine GL.fieldAddr I0.mono (o := 1) rfl rfl rfl rfl (by conv => lhs; whnf) ?_
         refine GL.store I0.mono (n := 1) rfl rfl rfl rfl rfl rfl rfl rfl rfl rfl (Nat.le_of_ble_eq_true rfl) (by (conv => lhs; simp only [List.take_succ_cons, List.take_zero, List.drop_succ_cons, List.drop_zero, List.nil_append, List.cons_append, List.drop_nil, List.append_nil, List.take_nil, List.set_cons_zero, List.set_cons_succ, Nat.zero_add, ni, nr, nc, ns, np, ic, nt, ei, cellsL])) (by (conv => lhs; simp only [List.take_succ_cons, List.take_zero, List.drop_succ_cons, List.drop_zero, List.nil_append, List.cons_append, List.drop_nil, List.append_nil, List.take_nil, List.set_cons_zero, List.set_cons_succ, Nat.zero_add, ni, nr, nc, ns, np, ic, nt, ei, cellsL])) ?_
         refine GL.fieldAddr I0.mono (o := 2) rfl rfl rfl rfl (by conv => lhs; whnf) ?_
         refine GL.store I0.mono (n := 1) rfl rfl rfl rfl rfl rfl rfl rfl rfl rfl (Nat.le_of_ble_eq_true rfl) (by (conv => lhs; simp only [List.take_succ_cons, List.take_zero, List.drop_succ_cons, List.drop_zero, List.nil_append, List.cons_append, List.drop_nil, List.append_nil, List.take_nil, List.set_cons_zero, List.set_cons_succ, Nat.zero_add, ni, nr, nc, ns, np, ic, nt, ei, cellsL])) (by (conv => lhs; simp only [List.take_succ_cons, List.take_zero, List.drop_succ_cons, List.drop_zero, List.nil_append, List.cons_append, List.drop_nil, List.append_nil, List.take_nil, List.set_cons_zero, List.set_cons_succ, Nat.zero_add, ni, nr, nc, ns, np, ic, nt, ei, cellsL])) ?_
         refine GL.doneT (by kernel_rfl) ?_
         refine goOn ?_
         refine Wp.regI I0.mono ?_
         refine GL.move I0.mono (by conv => lhs; whnf) ?_
         refine GL.fieldAddr I0.mono (o := 3) rfl rfl rfl rfl (by conv => lhs; whnf) ?_
         refine GL.load I0.mono rfl rfl rfl rfl (by simp) rfl rfl ?_
         refine GL.addR I0.mono rfl rfl (by omega) ?_
         refine GL.move I0.mono (by conv => lhs; whnf) ?_
         refine GL.assign I0.mono (by conv => lhs; whnf) ?_
         refine GL.assign I0.mono (by conv => lhs; whnf) ?_
         refine GL.doneF ?_
         refine blockX.normal ?_
         refine goOn ?_
         refine Wp.regI I0.mono ?_
         refine GL.addR I0.mono rfl rfl (by omega) ?_
         refine GL.move I0.mono (by conv => lhs; whnf) ?_
         refine GL.doneF ?_
         refine ⟨⟨k + 1, _, _⟩, (by dsimp only; omega), _, (LessS.weak (LessS.upd (LessS.upd (LessS.upd (LessS.upd (LessS.upd (LessS.upd (LessS.upd (LessS.upd (LessS.upd (LessS.upd (LessS.upd (LessS.upd (LessS.nil _) rfl) rfl) rfl) rfl) rfl) rfl) (congrArg (LV.int .i64) d8.symm)) (congrArg (LV.int .i64) d7.symm)) (congrArg (LV.int .i64) d9.symm)) rfl) rfl) rfl) _), ⟨by omega, all_snoc hi.2 ⟨by first | omega | exact Int.not_lt.1 h140, by omega, by omega⟩⟩, _, (congrArg (St.mk _) (effM_eq (Has.cons rfl (Has.cons rfl (Has.cons rfl (Has.cons rfl (Has.cons rfl Has.nil)))))).symm)⟩
     ·replace h110 := of_decide_eq_false h110
      obtain rfl : k = r.length := by omega
      have ht : r.take r.length = r := List.take_length
      have hcl := hb.sq.cell_in hR.l0 hR.l1 (b := 0) (by omega) (by omega)
      have hrow := hR.row
      have hR0 := hR.l0
      have hR1 := hR.l1
      have hR2 := hR.v0
      have hR3 := hR.v1
      have hR4 := hR.g0
      have hR5 := hR.g1
      unfold Mv.cell at hcl
      rw [ht] at hcl hrow hR0 hR1 hR2 hR3 hR4 hR5
      rw [ht]
      refine Wp.exitI ?_
      refine thenX.exit ?_
      refine thenX.exit ?_
      refine blockX.out ?_
      refine goOn ?_
      refine Wp.seqI ?_
      refine Wp.regI I0.mono ?_
      refine GL.move I0.mono (by conv => lhs; whnf) ?_
      refine GL.fieldAddr I0.mono (o := 3) rfl rfl rfl rfl (by conv => lhs; whnf) ?_
      refine GL.load I0.mono rfl rfl rfl rfl (by simp) rfl rfl ?_
      refine GL.move I0.mono (by conv => lhs; whnf) ?_
      refine GL.indexAddrF I0.mono (sz := 1) rfl rfl rfl rfl (by omega) (by (rw [em_len]; omega)) (by intro e he; obtain ⟨a, -, rfl⟩ := List.mem_map.1 he; rfl) (by rfl) ?_
      refine GL.loadF I0.mono rfl rfl (em_get (by omega)) rfl ?_
      refine GL.indexAddrF I0.mono (sz := 1) rfl rfl rfl rfl (by omega) (by (rw [em_len]; omega)) (by intro e he; obtain ⟨a, -, rfl⟩ := List.mem_map.1 he; rfl) (by rfl) ?_
      refine GL.loadF I0.mono rfl rfl (em_get (by omega)) rfl ?_
      refine GL.addR I0.mono rfl rfl (by omega) ?_
      refine GL.fieldAddr I0.mono (o := 3) rfl rfl rfl rfl (by conv => lhs; whnf) ?_
      refine GL.store I0.mono (n := 1) rfl rfl rfl rfl rfl rfl rfl rfl rfl rfl (Nat.le_of_ble_eq_true rfl) (by (conv => lhs; simp only [List.take_succ_cons, List.take_zero, List.drop_succ_cons, List.drop_zero, List.nil_append, List.cons_append, List.drop_nil, List.append_nil, List.take_nil, List.set_cons_zero, List.set_cons_succ, Nat.zero_add, ni, nr, nc, ns, np, ic, nt, ei, cellsL])) (by (conv => lhs; simp only [List.take_succ_cons, List.take_zero, List.drop_succ_cons, List.drop_zero, List.nil_append, List.cons_append, List.drop_nil, List.append_nil, List.take_nil, List.set_cons_zero, List.set_cons_succ, Nat.zero_add, ni, nr, nc, ns, np, ic, nt, ei, cellsL])) ?_
      refine GL.doneF ?_
      refine goOn ?_
      refine Wp.seqI ?_
      refine Wp.regD ?_
      refine GL.fieldAddr I0.mono (o := 2) rfl rfl rfl rfl (by conv => lhs; whnf) ?_
      refine GL.load I0.mono rfl rfl rfl rfl (by simp) rfl rfl ?_
      refine GL.fieldAddr I0.mono (o := 3) rfl rfl rfl rfl (by conv => lhs; whnf) ?_
      refine GL.load I0.mono rfl rfl rfl rfl (by simp) rfl rfl ?_
      refine GL.move I0.mono (by conv => lhs; whnf) ?_
      refine GL.indexAddrF I0.mono (sz := 1) rfl rfl rfl rfl (by omega) (by (rw [em_len]; omega)) (by intro e he; obtain ⟨a, -, rfl⟩ := List.mem_map.1 he; rfl) (by rfl) ?_
      refine GL.loadF I0.mono rfl rfl (em_get (by omega)) rfl ?_
      refine GL.indexAddrF I0.mono (sz := 1) rfl rfl rfl rfl (by omega) (by (rw [em_len]; omega)) (by intro e he; obtain ⟨a, -, rfl⟩ := List.mem_map.1 he; rfl) (by rfl) ?_
      refine GL.loadF I0.mono rfl rfl (em_get (by omega)) rfl ?_
      refine GL.addR I0.mono rfl rfl (by omega) ?_
      refine GL.fieldAddr I0.mono (o := 2) rfl rfl rfl rfl (by conv => lhs; whnf) ?_
      refine GL.store I0.mono (n := 1) rfl rfl rfl rfl rfl rfl rfl rfl rfl rfl (Nat.le_of_ble_eq_true rfl) (by (conv => lhs; simp only [List.take_succ_cons, List.take_zero, List.drop_succ_cons, List.drop_zero, List.nil_append, List.cons_append, List.drop_nil, List.append_nil, List.take_nil, List.set_cons_zero, List.set_cons_succ, Nat.zero_add, ni, nr, nc, ns, np, ic, nt, ei, cellsL])) (by (conv => lhs; simp only [List.take_succ_cons, List.take_zero, List.drop_succ_cons, List.drop_zero, List.nil_append, List.cons_append, List.drop_nil, List.append_nil, List.take_nil, List.set_cons_zero, List.set_cons_succ, Nat.zero_add, ni, nr, nc, ns, np, ic, nt, ei, cellsL])) ?_
      refine GL.doneT (by kernel_rfl) ?_
      refine goOn ?_
      refine Wp.seqI ?_
      refine Wp.seqI ?_
      refine Wp.regD ?_
      refine GL.fieldAddr I0.mono (o := 3) rfl rfl rfl rfl (by conv => lhs; whnf) ?_
      refine GL.load I0.mono rfl rfl rfl rfl (by simp) rfl rfl ?_
      refine GL.fieldAddr I0.mono (o := 0) rfl rfl rfl rfl (by conv => lhs; whnf) ?_
      refine GL.load I0.mono rfl rfl rfl rfl (by simp) rfl rfl ?_
      refine GL.move I0.mono (by conv => lhs; whnf) ?_
      refine GL.indexAddrF I0.mono (sz := 3) rfl rfl rfl rfl (by omega) (by (rw [em_len]; omega)) (by intro e he; obtain ⟨a, -, rfl⟩ := List.mem_map.1 he; rfl) (by rfl) ?_
      refine GL.fieldAddrF I0.mono (o := 2) rfl rfl (by conv => lhs; whnf) ?_
      refine GL.loadF I0.mono rfl rfl (em_get (by omega)) rfl ?_
      refine GL.bin I0.mono rfl ?_
      refine GL.doneT (by kernel_rfl) ?_
      refine goOn ?_
      refine Wp.condI rfl (fun h214 => ?_) (fun h214 => ?_)
      ·replace h214 := of_decide_eq_true h214
       refine Wp.seqI ?_
       refine Wp.regI I0.mono ?_
       refine GL.buildS I0.mono (z := [LV.nils, LV.nils, LV.int .i64 0, LV.int .i64 0]) (cs := [_, _, _, _]) (n := 4) rfl rfl rfl (EvS.nil) rfl rfl ?_
       refine GL.storeW I0.mono (n := 4) rfl rfl rfl rfl rfl rfl rfl (by conv => lhs; whnf) rfl rfl rfl ?_
       refine GL.assign I0.mono (by conv => lhs; whnf) ?_
       refine GL.doneF ?_
       refine goOn ?_
       refine Wp.retI ?_
       refine thenX.ret ?_
       refine RetX.ret ?_
       refine ⟨_, _, _, _, .cons (.cellA (n := 4) rfl rfl rfl (by simp) rfl rfl rfl (Nat.le_of_ble_eq_true rfl)) (.cons (.tmp rfl) .nil), .tup (.aggc (.aggc (by exact Exp.nils (sz := 1)) (.aggc (by exact Exp.nils (sz := 1)) (.aggc (.frz (.pure rfl)) (.aggc (.frz (.pure rfl)) .aggn)))) (.aggc (.frz (.pure rfl)) .aggn)), (by decide), by simp, ?_⟩
       first
       | (rw [eval_out (by first | exact .inr (.inr (order_bad (k := k) (by omega) (by first | exact .inr h47 | exact .inl (nb_f h54)))) | exact .inr (.inr (order_bad_pair hp (pairs_mem (k := q) (by omega)) (by first | exact pok_not1 h84 | exact pok_not2 h84 h86 h91))) | exact out_car h30)]; rfl)
       | (rw [eval_lose hb hcar.1 hcar.2 (.inl ⟨k, by omega, fun hF => by obtain ⟨q1, q2, q3⟩ := hF; unfold carAt stopAt at q1; unfold carAt at q3; omega⟩)]; rfl)
       | (rw [eval_lose hb hcar.1 hcar.2 (.inr h214)]; rfl)
       | (rw [eval_win hb hcar.1 hcar.2 hrl hord hi.2 h214]; rfl)
      ·replace h214 := of_decide_eq_false h214
       refine Wp.skipI ?_
       refine goOn ?_
       refine Wp.seqI ?_
       refine Wp.regI I0.mono ?_
       refine GL.loadW I0.mono (n := 4) rfl rfl rfl rfl (by simp) rfl rfl rfl ?_
       refine GL.storeW I0.mono (n := 4) rfl rfl rfl rfl rfl rfl rfl (by conv => lhs; whnf) rfl rfl rfl ?_
       refine GL.assign I0.mono (by conv => lhs; whnf) ?_
       refine GL.doneF ?_
       refine goOn ?_
       refine Wp.retI ?_
       refine RetX.ret ?_
       refine ⟨_, _, _, _, .cons (.cellA (n := 4) rfl rfl rfl (by simp) rfl rfl rfl (Nat.le_of_ble_eq_true rfl)) (.cons (.tmp rfl) .nil), .tup (.aggc (.aggc (by exact Exp.slo rfl rfl rfl rfl (by (rw [em_len, arr_len]; omega))) (.aggc (by exact Exp.slo rfl rfl rfl rfl (by (rw [em_len, lds_len]; omega))) (.aggc (.frz (.pure rfl)) (.aggc (.frz (.pure rfl)) .aggn)))) (.aggc (.frz (.pure rfl)) .aggn)), (by decide), by simp, ?_⟩
       first
       | (rw [eval_out (by first | exact .inr (.inr (order_bad (k := k) (by omega) (by first | exact .inr h47 | exact .inl (nb_f h54)))) | exact .inr (.inr (order_bad_pair hp (pairs_mem (k := q) (by omega)) (by first | exact pok_not1 h84 | exact pok_not2 h84 h86 h91))) | exact out_car h30)]; rfl)
       | (rw [eval_lose hb hcar.1 hcar.2 (.inl ⟨k, by omega, fun hF => by obtain ⟨q1, q2, q3⟩ := hF; unfold carAt stopAt at q1; unfold carAt at q3; omega⟩)]; rfl)
       | (rw [eval_lose hb hcar.1 hcar.2 (.inr h214)]; rfl)
       | (rw [eval_win hb hcar.1 hcar.2 hrl hord hi.2 h214]; rfl)


theorem reval_ok (I : Inst) (N : Nat) (hb : Sb I N) (hp : Sp I) (car : Int) (r : List Int) (hrl : r.length ≤ 1000) : CallsV Try.prog 32 [ei I, .int .i64 car, .sl (em ni r)] (tripR (eval I car r)) := (reval_own I N hb hp car r hrl).freeze rfl

end Go.Proofs.Ytpepcfombibpeaa
