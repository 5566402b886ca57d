/- What stops come or go, walked. -/
import Derived.Test.YtffnlhjdlhpmjaaProg
import Derived.Test.YtffnlhjdlhpmjaaKd
import Derived.KernelRfl
set_option linter.all false
namespace Go.Proofs.Ytffnlhjdlhpmjaa
open Go.Proofs Mv
theorem perm_take {R O X : List Int} {q : Int → Bool} {j : Nat} {n : Int} (h : R[j]? = some n) (hq : q n = true) (hp : (O ++ R.filter q).Perm X) : ((O ++ [n]) ++ (R.eraseIdx j).filter q).Perm X := by
  refine List.Perm.trans ?_ hp
  rw [List.append_assoc]
  refine List.Perm.append_left O ?_
  have := (erase_perm h).filter q
  rw [List.filter_cons, if_pos hq] at this
  exact this
theorem perm_skip {R O X : List Int} {q : Int → Bool} {j : Nat} {n : Int} (h : R[j]? = some n) (hq : q n = false) (hp : (O ++ R.filter q).Perm X) : (O ++ (R.eraseIdx j).filter q).Perm X := by
  refine List.Perm.trans ?_ hp
  refine List.Perm.append_left O ?_
  have := (erase_perm h).filter q
  rw [List.filter_cons, if_neg (by rw [hq]; simp)] at this
  exact this
theorem perm_len {R O X : List Int} {q : Int → Bool} {N : Nat} (hp : (O ++ R.filter q).Perm X) (hX : X.length ≤ N) : O.length ≤ N := by
  have := hp.length_eq
  rw [List.length_append] at this
  omega
theorem ne_kb {R : List Int} (h : 0 < R.length) (h0 : em kb R = []) : False := by
  have := congrArg List.length h0
  rw [em_len, List.length_nil] at this
  omega
theorem fl_len (l : List Int) (q : Int → Bool) {N : Nat} (h : l.length ≤ N) : (l.filter q).length ≤ N := Nat.le_trans (List.length_filter_le q l) h
theorem sort0_ok : CallsV Try.prog 68 [.sl []] (.tup []) := sortN ⟨_, Try.func68, rfl, rfl⟩ (fun p cap w => AnyM.slices_Sort_int_none Try.sortL p cap w)

theorem sum_le {N : Nat} : ∀ {l : List Nat}, (∀ x ∈ l, x ≤ N) → l.sum ≤ l.length * N
  | [], _ => by simp
  | x :: r, h => by
    have h1 := h x (by simp)
    have h2 := sum_le (l := r) (N := N) fun y hy => h y (by simp [hy])
    rw [List.sum_cons, List.length_cons, Nat.add_mul]
    omega

set_option maxRecDepth 100000 in
set_option maxHeartbeats 4000000 in
theorem moved_ok (d : Delta) (hd : OkD d) : CallsV Try.prog 27 [.agg (kd d)] (.slo 1 (em ni (movedL d))) := by
  refine CallsR.intro (I0.sound _) mix Try.func27 rfl rfl (by simp [Try.f27]) (by kernel_rfl) (nb := 0) ?_
  unfold Try.f27
  refine Wp.seqI ?_
  obtain ⟨d1, d2, d3, d4⟩ := hd
  refine Wp.regI I0.mono ?_
  refine GL.box I0.mono (by conv => lhs; whnf) rfl (n := 3) rfl rfl ?_
  intro g1
  refine GL.assign I0.mono (by conv => lhs; whnf) ?_
  refine GL.doneF ?_
  refine goOn ?_
  refine Wp.seqI ?_
  refine Wp.regI I0.mono ?_
  refine GL.makeMap I0.mono ?_
  intro g14
  refine GL.makeMap I0.mono ?_
  intro g15
  refine GL.assign I0.mono (by conv => lhs; whnf) ?_
  refine GL.assign I0.mono (by conv => lhs; whnf) ?_
  refine GL.doneF ?_
  refine goOn ?_
  refine Wp.seqI ?_
  refine Wp.seqI ?_
  refine Wp.regI I0.mono ?_
  refine GL.fieldAddr I0.mono (o := 0) rfl rfl rfl rfl (by conv => lhs; whnf) ?_
  refine GL.load I0.mono rfl rfl rfl rfl (by simp) rfl rfl ?_
  refine GL.lenF I0.mono rfl rfl (em_len _ _) ?_
  refine GL.move I0.mono (by conv => lhs; whnf) ?_
  refine GL.doneF ?_
  refine goOn ?_
  refine Wp.blockI ?_
  refine Wp.loopI I0.mono (α := Nat × List Int × List Int) (fun ⟨i, B, A⟩ st => (i ≤ d.turns.length ∧ B = (d.turns.take i).foldl (fun b t => t.before.foldl addK b) [] ∧ A = (d.turns.take i).foldl (fun b t => t.after.foldl addK b) []) ∧ ∃ m0, st = ⟨(updS (updS (updS (updS (updS (fun _ => LV.undef) 3 (.mref 896 g14)) 4 (.mref 960 g15)) 17 (.sl (em kt d.turns))) 18 (.int .i64 (d.turns.length : Int))) 19 (.int .i64 (i : Int))), effM m0 [(896, ⟨g14, false, .mp, 2, em kb B⟩), (960, ⟨g15, false, .mp, 2, em kb A⟩)]⟩) (fun ⟨i, B, A⟩ => d.turns.length - i) ⟨0, [], []⟩ ⟨_, (LessS.weak (LessS.upd (LessS.upd (LessS.upd (LessS.upd (LessS.upd (LessS.nil _) rfl) rfl) rfl) rfl) rfl) _), ⟨Nat.zero_le _, rfl, rfl⟩, _, (congrArg (St.mk _) (effM_eq (Has.cons rfl (Has.cons rfl Has.nil))).symm)⟩ ?_
  rintro ⟨i, B, A⟩ _ ⟨⟨hi, hB, hA⟩, m0, rfl⟩
  refine Wp.seqI ?_
  refine Wp.regI I0.mono ?_
  refine GL.bin I0.mono rfl ?_
  refine GL.doneF ?_
  refine goOn ?_
  refine Wp.seqI ?_
  refine Wp.condI rfl (fun h20 => ?_) (fun h20 => ?_)
  ·replace h20 := of_decide_eq_true h20
   have hmem := getD_mem (l := d.turns) (j := i) (by omega)
   have h4 := d4 _ hmem
   refine Wp.skipI ?_
   refine goOn ?_
   refine Wp.seqI ?_
   refine Wp.blockI ?_
   refine Wp.seqI ?_
   refine Wp.regI I0.mono ?_
   refine GL.indexAddrF I0.mono (sz := 3) rfl rfl rfl rfl (by omega) (by (rw [em_len]; omega)) (by intro e he; obtain ⟨a, -, rfl⟩ := List.mem_map.1 he; rfl) (by with_reducible exact Int.toNat_natCast _) ?_
   refine GL.loadFW I0.mono (n := 3) rfl rfl (em_get (by omega)) rfl rfl ?_
   refine GL.alloc I0.mono (cs := [LV.int .i64 0, LV.nils, LV.nils]) rfl rfl ?_
   intro g6
   refine GL.storeW I0.mono (n := 3) rfl rfl rfl rfl rfl rfl rfl (by conv => lhs; whnf) rfl rfl rfl ?_
   refine GL.doneF ?_
   refine goOn ?_
   refine Wp.seqI ?_
   refine Wp.seqI ?_
   refine Wp.regI I0.mono ?_
   refine GL.fieldAddr I0.mono (o := 1) rfl rfl rfl rfl (by conv => lhs; whnf) ?_
   refine GL.load I0.mono rfl rfl rfl rfl (by simp) rfl rfl ?_
   refine GL.lenF I0.mono rfl rfl (em_len _ _) ?_
   refine GL.move I0.mono (by conv => lhs; whnf) ?_
   refine GL.doneF ?_
   refine goOn ?_
   refine Wp.blockI ?_
   refine Wp.loopI I0.mono (α := Nat × List Int) (fun ⟨j, B2⟩ st => (j ≤ (d.turns.getD i default).before.length ∧ B2 = ((d.turns.getD i default).before.take j).foldl addK B) ∧ ∃ m0, st = ⟨(updS (updS (updS (updS (updS (updS (updS (updS (updS (fun _ => LV.undef) 3 (.mref 896 g14)) 4 (.mref 960 g15)) 17 (.sl (em kt d.turns))) 18 (.int .i64 (d.turns.length : Int))) 19 (.int .i64 (i : Int))) 6 (.ref 384 g6 0 0)) 24 (.sl (em ni (d.turns.getD i default).before))) 25 (.int .i64 ((d.turns.getD i default).before.length : Int))) 26 (.int .i64 (j : Int))), effM m0 [(896, ⟨g14, false, .mp, 2, em kb B2⟩), (960, ⟨g15, false, .mp, 2, em kb A⟩), (384, ⟨g6, false, .var, 3, [kt (d.turns.getD i default)]⟩)]⟩) (fun ⟨j, B2⟩ => (d.turns.getD i default).before.length - j) ⟨0, _⟩ ⟨_, (LessS.weak (LessS.upd (LessS.upd (LessS.upd (LessS.upd (LessS.upd (LessS.upd (LessS.upd (LessS.upd (LessS.upd (LessS.nil _) rfl) rfl) rfl) rfl) rfl) rfl) rfl) rfl) rfl) _), ⟨Nat.zero_le _, rfl⟩, _, (congrArg (St.mk _) (effM_eq (Has.cons rfl (Has.cons rfl (Has.cons rfl Has.nil)))).symm)⟩ ?_
   rintro ⟨j, B2⟩ _ ⟨⟨hj, hB2⟩, m0, rfl⟩
   refine Wp.seqI ?_
   refine Wp.regI I0.mono ?_
   refine GL.bin I0.mono rfl ?_
   refine GL.doneF ?_
   refine goOn ?_
   refine Wp.seqI ?_
   refine Wp.condI rfl (fun h27 => ?_) (fun h27 => ?_)
   ·replace h27 := of_decide_eq_true h27
    refine Wp.skipI ?_
    refine goOn ?_
    refine Wp.seqI ?_
    refine Wp.blockI ?_
    refine Wp.seqI ?_
    refine Wp.regI I0.mono ?_
    refine GL.indexAddrF I0.mono (sz := 1) rfl rfl rfl rfl (by omega) (by (rw [em_len]; omega)) (by intro e he; obtain ⟨a, -, rfl⟩ := List.mem_map.1 he; rfl) (by with_reducible exact Int.toNat_natCast _) ?_
    refine GL.loadF I0.mono rfl rfl (em_get (by omega)) rfl ?_
    refine GL.assign I0.mono (by conv => lhs; whnf) ?_
    refine GL.doneF ?_
    refine goOn ?_
    refine Wp.regI I0.mono ?_
    refine GL.move I0.mono (by conv => lhs; whnf) ?_
    refine GL.move I0.mono (by conv => lhs; whnf) ?_
    refine GL.setPut I0.mono rfl rfl rfl rfl rfl rfl rfl rfl rfl rfl rfl ?_
    refine GL.doneF ?_
    refine blockX.normal ?_
    refine goOn ?_
    refine Wp.regI I0.mono ?_
    refine GL.addR I0.mono rfl rfl (by omega) ?_
    refine GL.move I0.mono (by conv => lhs; whnf) ?_
    refine GL.doneF ?_
    refine ⟨⟨j + 1, addK B2 ((d.turns.getD i default).before.getD j default)⟩, (by dsimp only; omega), _, (LessS.weak (LessS.upd (LessS.upd (LessS.upd (LessS.upd (LessS.upd (LessS.upd (LessS.upd (LessS.upd (LessS.upd (LessS.nil _) rfl) rfl) rfl) rfl) rfl) rfl) rfl) rfl) rfl) _), ⟨by omega, by rw [hB2, take_snocG (by omega), List.foldl_append]; rfl⟩, _, (congrArg (St.mk _) (effM_eq (Has.cons rfl (Has.cons rfl (Has.cons rfl Has.nil)))).symm)⟩
   ·replace h27 := of_decide_eq_false h27
    rw [List.take_of_length_le (by omega)] at hB2
    refine Wp.exitI ?_
    refine thenX.exit ?_
    refine thenX.exit ?_
    refine blockX.out ?_
    refine goOn ?_
    refine Wp.seqI ?_
    refine Wp.regI I0.mono ?_
    refine GL.fieldAddr I0.mono (o := 2) rfl rfl rfl rfl (by conv => lhs; whnf) ?_
    refine GL.load I0.mono rfl rfl rfl rfl (by simp) rfl rfl ?_
    refine GL.lenF I0.mono rfl rfl (em_len _ _) ?_
    refine GL.move I0.mono (by conv => lhs; whnf) ?_
    refine GL.doneF ?_
    refine goOn ?_
    refine Wp.blockI ?_
    refine Wp.loopI I0.mono (α := Nat × List Int) (fun ⟨j, A2⟩ st => (j ≤ (d.turns.getD i default).after.length ∧ A2 = ((d.turns.getD i default).after.take j).foldl addK A) ∧ ∃ m0, st = ⟨(updS (updS (updS (updS (updS (updS (updS (updS (updS (fun _ => LV.undef) 3 (.mref 896 g14)) 4 (.mref 960 g15)) 17 (.sl (em kt d.turns))) 18 (.int .i64 (d.turns.length : Int))) 19 (.int .i64 (i : Int))) 6 (.ref 384 g6 0 0)) 34 (.sl (em ni (d.turns.getD i default).after))) 35 (.int .i64 ((d.turns.getD i default).after.length : Int))) 36 (.int .i64 (j : Int))), effM m0 [(896, ⟨g14, false, .mp, 2, em kb B2⟩), (960, ⟨g15, false, .mp, 2, em kb A2⟩), (384, ⟨g6, false, .var, 3, [kt (d.turns.getD i default)]⟩)]⟩) (fun ⟨j, A2⟩ => (d.turns.getD i default).after.length - j) ⟨0, _⟩ ⟨_, (LessS.weak (LessS.upd (LessS.upd (LessS.upd (LessS.upd (LessS.upd (LessS.upd (LessS.upd (LessS.upd (LessS.upd (LessS.nil _) rfl) rfl) rfl) rfl) rfl) rfl) rfl) rfl) rfl) _), ⟨Nat.zero_le _, rfl⟩, _, (congrArg (St.mk _) (effM_eq (Has.cons rfl (Has.cons rfl (Has.cons rfl Has.nil)))).symm)⟩ ?_
    rintro ⟨j, A2⟩ _ ⟨⟨hj, hA2⟩, m0, rfl⟩
    refine Wp.seqI ?_
    refine Wp.regI I0.mono ?_
    refine GL.bin I0.mono rfl ?_
    refine GL.doneF ?_
    refine goOn ?_
    refine Wp.seqI ?_
    refine Wp.condI rfl (fun h37 => ?_) (fun h37 => ?_)
    ·replace h37 := of_decide_eq_true h37
     refine Wp.skipI ?_
     refine goOn ?_
     refine Wp.seqI ?_
     refine Wp.blockI ?_
     refine Wp.seqI ?_
     refine Wp.regI I0.mono ?_
     refine GL.indexAddrF I0.mono (sz := 1) rfl rfl rfl rfl (by omega) (by (rw [em_len]; omega)) (by intro e he; obtain ⟨a, -, rfl⟩ := List.mem_map.1 he; rfl) (by with_reducible exact Int.toNat_natCast _) ?_
     refine GL.loadF I0.mono rfl rfl (em_get (by omega)) rfl ?_
     refine GL.assign I0.mono (by conv => lhs; whnf) ?_
     refine GL.doneF ?_
     refine goOn ?_
     refine Wp.regI I0.mono ?_
     refine GL.move I0.mono (by conv => lhs; whnf) ?_
     refine GL.move I0.mono (by conv => lhs; whnf) ?_
     refine GL.setPut I0.mono rfl rfl rfl rfl rfl rfl rfl rfl rfl rfl rfl ?_
     refine GL.doneF ?_
     refine blockX.normal ?_
     refine goOn ?_
     refine Wp.regI I0.mono ?_
     refine GL.addR I0.mono rfl rfl (by omega) ?_
     refine GL.move I0.mono (by conv => lhs; whnf) ?_
     refine GL.doneF ?_
     refine ⟨⟨j + 1, addK A2 ((d.turns.getD i default).after.getD j default)⟩, (by dsimp only; omega), _, (LessS.weak (LessS.upd (LessS.upd (LessS.upd (LessS.upd (LessS.upd (LessS.upd (LessS.upd (LessS.upd (LessS.upd (LessS.nil _) rfl) rfl) rfl) rfl) rfl) rfl) rfl) rfl) rfl) _), ⟨by omega, by rw [hA2, take_snocG (by omega), List.foldl_append]; rfl⟩, _, (congrArg (St.mk _) (effM_eq (Has.cons rfl (Has.cons rfl (Has.cons rfl Has.nil)))).symm)⟩
    ·replace h37 := of_decide_eq_false h37
     rw [List.take_of_length_le (by omega)] at hA2
     refine Wp.exitI ?_
     refine thenX.exit ?_
     refine thenX.exit ?_
     refine blockX.out ?_
     refine blockX.normal ?_
     refine goOn ?_
     refine Wp.regI I0.mono ?_
     refine GL.addR I0.mono rfl rfl (by omega) ?_
     refine GL.move I0.mono (by conv => lhs; whnf) ?_
     refine GL.doneF ?_
     refine ⟨⟨i + 1, B2, A2⟩, (by dsimp only; omega), _, (LessS.weak (LessS.upd (LessS.upd (LessS.upd (LessS.upd (LessS.upd (LessS.nil _) rfl) rfl) rfl) rfl) rfl) _), ⟨by omega, by rw [hB2, hB, take_snocG (by omega), List.foldl_append]; rfl, by rw [hA2, hA, take_snocG (by omega), List.foldl_append]; rfl⟩, _, (congrArg (St.mk _) (effM_eq (Has.cons rfl (Has.cons rfl Has.nil))).symm)⟩
  ·replace h20 := of_decide_eq_false h20
   obtain rfl : i = d.turns.length := by omega
   rw [List.take_length] at hB hA
   have hBf := hB
   have hAf := hA
   have hlB := coll_len Turn.before d.turns []
   have hlA := coll_len Turn.after d.turns []
   have hsB := sum_le (l := d.turns.map fun t => t.before.length) (N := 1000000) (by intro x hx; obtain ⟨t, ht, rfl⟩ := List.mem_map.1 hx; exact (d4 t ht).1)
   have hsA := sum_le (l := d.turns.map fun t => t.after.length) (N := 1000000) (by intro x hx; obtain ⟨t, ht, rfl⟩ := List.mem_map.1 hx; exact (d4 t ht).2)
   rw [List.length_map] at hsB hsA
   rw [← hB] at hlB
   rw [← hA] at hlA
   rw [List.length_nil] at hlA hlB
   have hX6 : (B.filter (fun s => !decide (s ∈ A))).length ≤ 40000000 := fl_len _ _ (by omega)
   have hX8 : (B.filter (fun s => !decide (s ∈ A)) ++ A.filter (fun s => !decide (s ∈ B))).length ≤ 80000000 := by rw [List.length_append]; have := fl_len A (fun s => !decide (s ∈ B)) (N := 40000000) (by omega); omega
   refine Wp.exitI ?_
   refine thenX.exit ?_
   refine thenX.exit ?_
   refine blockX.out ?_
   refine goOn ?_
   refine Wp.seqI ?_
   refine Wp.regI I0.mono ?_
   refine GL.assign I0.mono (by conv => lhs; whnf) ?_
   refine GL.doneF ?_
   refine goWeak (Weak.nilSlot (j := 11) 700001 1 rfl) ?_
   refine Wp.seqI ?_
   refine Wp.seqI ?_
   refine Wp.regI I0.mono ?_
   refine GL.move I0.mono (by conv => lhs; whnf) ?_
   refine GL.range I0.mono (m' := updM _ 896 ⟨g14, true, .mp, 2, em kb B⟩) rfl (.mref rfl rfl rfl rfl) rfl ?_
   intro g45
   refine GL.doneF ?_
   refine goOn ?_
   refine Wp.blockI ?_
   refine Wp.loopI I0.mono (α := List LV × List Int × Nat × List Int) (fun ⟨h, R, go, O⟩ st => ((O ++ R.filter (fun s => !decide (s ∈ A))).Perm (B.filter (fun s => !decide (s ∈ A)))) ∧ ∃ m0, st = ⟨(updS (updS (updS (updS (fun _ => LV.undef) 3 (.mref 896 g14)) 4 (.mref 960 g15)) 11 (.own 700001 go 0 O.length none)) 45 (.mref 2880 g45)), effM m0 [(896, ⟨g14, true, .mp, 2, em kb B⟩), (960, ⟨g15, false, .mp, 2, em kb A⟩), (700001, ⟨go, false, .slc, 1, em ni O⟩), (2880, ⟨g45, false, .mp, 3, h :: em kb R⟩)]⟩) (fun ⟨h, R, go, O⟩ => R.length) ⟨_, B, _, []⟩ ⟨_, (LessS.weak (LessS.upd (LessS.upd (LessS.upd (LessS.upd (LessS.nil _) rfl) rfl) rfl) rfl) _), (by rw [List.nil_append]), _, (congrArg (St.mk _) (effM_eq (Has.cons rfl (Has.cons rfl (Has.cons rfl (Has.cons rfl Has.nil))))).symm)⟩ ?_
   rintro ⟨h, R, go, O⟩ _ ⟨hp6, m0, rfl⟩
   have hol := perm_len hp6 hX6
   refine Wp.seqI ?_
   rcases Nat.eq_zero_or_pos R.length with hz | hz
   ·skip
    refine Wp.regI I0.mono ?_
    obtain rfl := List.eq_nil_of_length_eq_zero hz
    refine GL.next I0.mono rfl rfl rfl rfl rfl rfl rfl (fun _ => ?_) (fun j k v hj => absurd hj (by simp [em]))
    refine GL.extract I0.mono rfl rfl ?_
    refine GL.doneF ?_
    refine goOn ?_
    refine Wp.seqI ?_
    refine Wp.condF rfl ?_
    refine Wp.exitI ?_
    refine thenX.exit ?_
    refine thenX.exit ?_
    refine blockX.out ?_
    refine goOn ?_
    refine Wp.seqI ?_
    refine Wp.seqI ?_
    refine Wp.regI I0.mono ?_
    refine GL.move I0.mono (by conv => lhs; whnf) ?_
    refine GL.range I0.mono (m' := updM _ 960 ⟨g15, true, .mp, 2, em kb A⟩) rfl (.mref rfl rfl rfl rfl) rfl ?_
    intro g59
    refine GL.doneF ?_
    refine goOn ?_
    refine Wp.blockI ?_
    refine Wp.loopI I0.mono (α := List LV × List Int × Nat × List Int) (fun ⟨h, R, go, O⟩ st => ((O ++ R.filter (fun s => !decide (s ∈ B))).Perm (B.filter (fun s => !decide (s ∈ A)) ++ A.filter (fun s => !decide (s ∈ B)))) ∧ ∃ m0, st = ⟨(updS (updS (updS (updS (fun _ => LV.undef) 3 (.mref 896 g14)) 4 (.mref 960 g15)) 11 (.own 700001 go 0 O.length none)) 59 (.mref 3776 g59)), effM m0 [(896, ⟨g14, true, .mp, 2, em kb B⟩), (960, ⟨g15, true, .mp, 2, em kb A⟩), (700001, ⟨go, false, .slc, 1, em ni O⟩), (3776, ⟨g59, false, .mp, 3, h :: em kb R⟩)]⟩) (fun ⟨h, R, go, O⟩ => R.length) ⟨_, A, _, O⟩ ⟨_, (LessS.weak (LessS.upd (LessS.upd (LessS.upd (LessS.upd (LessS.nil _) rfl) rfl) rfl) rfl) _), (List.Perm.append_right _ (by rw [List.filter_nil, List.append_nil] at hp6; exact hp6)), _, (congrArg (St.mk _) (effM_eq (Has.cons rfl (Has.cons rfl (Has.cons rfl (Has.cons rfl Has.nil))))).symm)⟩ ?_
    rintro ⟨h, R, go, O⟩ _ ⟨hp8, m0, rfl⟩
    have hol := perm_len hp8 hX8
    refine Wp.seqI ?_
    rcases Nat.eq_zero_or_pos R.length with hz | hz
    ·skip
     refine Wp.regI I0.mono ?_
     obtain rfl := List.eq_nil_of_length_eq_zero hz
     refine GL.next I0.mono rfl rfl rfl rfl rfl rfl rfl (fun _ => ?_) (fun j k v hj => absurd hj (by simp [em]))
     refine GL.extract I0.mono rfl rfl ?_
     refine GL.doneF ?_
     refine goOn ?_
     refine Wp.seqI ?_
     refine Wp.condF rfl ?_
     refine Wp.exitI ?_
     refine thenX.exit ?_
     refine thenX.exit ?_
     refine blockX.out ?_
     refine goOn ?_
     refine Wp.seqI ?_
     rcases Nat.eq_zero_or_pos O.length with hz | hz
     ·skip
      refine Wp.regI I0.mono ?_
      refine GL.move I0.mono (by conv => lhs; whnf) ?_
      obtain rfl := List.eq_nil_of_length_eq_zero hz
      refine GL.callFl I0.mono rfl (Frz.aggc (by exact Frz.whole rfl rfl rfl rfl rfl) Frz.aggn) sort0_ok (.tup .aggn) rfl rfl ?_
      refine GL.doneF ?_
      refine goOn ?_
      refine Wp.seqI ?_
      refine Wp.regI I0.mono ?_
      refine GL.move I0.mono (by conv => lhs; whnf) ?_
      refine GL.assign I0.mono (by conv => lhs; whnf) ?_
      refine GL.doneF ?_
      refine goOn ?_
      refine Wp.retI ?_
      refine RetX.ret ?_
      first
      | (have hfin : sorted [] = movedL d := (by rw [movedL, collB, collA, ← hBf, ← hAf]; rw [List.filter_nil, List.append_nil] at hp8; exact sorted_eq hp8)
         exact ⟨_, _, _, _, .cons (.tmp rfl) .nil, .slo rfl rfl rfl rfl rfl, by simp, by simp, by show LV.slo 1 (em ni []) = _; rw [← hfin, show sorted [] = [] from by simp [sorted]]⟩)
      | (have hfin : sorted O = movedL d := (by rw [movedL, collB, collA, ← hBf, ← hAf]; rw [List.filter_nil, List.append_nil] at hp8; exact sorted_eq hp8)
         exact ⟨_, _, _, _, .cons (.tmp rfl) .nil, .slo rfl rfl rfl rfl (by rw [em_len, sorted_len, Nat.zero_add]), by simp, by simp, by show LV.slo 1 (em ni (sorted O)) = _; rw [hfin]⟩)
     ·skip
      refine Wp.regI I0.mono ?_
      refine GL.move I0.mono (by conv => lhs; whnf) ?_
      refine GL.lendS I0.mono (T := []) (es' := em ni (sorted O)) rfl rfl rfl rfl rfl rfl rfl (by rw [em_len]) (by exact hz) rfl (by rw [em_len, em_len, sorted_len]) Frz.aggn (by decide) (sort_ok O (by omega)) ?_
      refine GL.doneF ?_
      refine goOn ?_
      refine Wp.seqI ?_
      refine Wp.regI I0.mono ?_
      refine GL.move I0.mono (by conv => lhs; whnf) ?_
      refine GL.assign I0.mono (by conv => lhs; whnf) ?_
      refine GL.doneF ?_
      refine goOn ?_
      refine Wp.retI ?_
      refine RetX.ret ?_
      first
      | (have hfin : sorted [] = movedL d := (by rw [movedL, collB, collA, ← hBf, ← hAf]; rw [List.filter_nil, List.append_nil] at hp8; exact sorted_eq hp8)
         exact ⟨_, _, _, _, .cons (.tmp rfl) .nil, .slo rfl rfl rfl rfl rfl, by simp, by simp, by show LV.slo 1 (em ni []) = _; rw [← hfin, show sorted [] = [] from by simp [sorted]]⟩)
      | (have hfin : sorted O = movedL d := (by rw [movedL, collB, collA, ← hBf, ← hAf]; rw [List.filter_nil, List.append_nil] at hp8; exact sorted_eq hp8)
         exact ⟨_, _, _, _, .cons (.tmp rfl) .nil, .slo rfl rfl rfl rfl (by rw [em_len, sorted_len, Nat.zero_add]), by simp, by simp, by show LV.slo 1 (em ni (sorted O)) = _; rw [hfin]⟩)
    ·skip
     refine Wp.regI I0.mono ?_
     refine GL.next I0.mono rfl rfl rfl rfl rfl rfl rfl (fun h0 => (ne_kb hz h0).elim) (fun j k v hj => ?_)
     obtain ⟨n, hR, rfl, rfl⟩ := kb_at hj
     rw [em_erase]
     have hel := erase_len hR
     refine GL.extract I0.mono rfl rfl ?_
     refine GL.doneF ?_
     refine goOn ?_
     refine Wp.seqI ?_
     refine Wp.condT rfl ?_
     refine Wp.skipI ?_
     refine goOn ?_
     refine Wp.blockI ?_
     refine Wp.seqI ?_
     refine Wp.regI I0.mono ?_
     refine GL.entry I0.mono rfl rfl rfl rfl rfl rfl ?_
     refine GL.extract I0.mono rfl rfl ?_
     refine GL.assign I0.mono (by conv => lhs; whnf) ?_
     refine GL.doneF ?_
     refine goOn ?_
     refine Wp.seqI ?_
     refine Wp.regI I0.mono ?_
     refine GL.move I0.mono (by conv => lhs; whnf) ?_
     refine GL.move I0.mono (by conv => lhs; whnf) ?_
     refine GL.setLook I0.mono rfl rfl rfl rfl rfl rfl rfl rfl rfl rfl ?_
     refine GL.un I0.mono rfl ?_
     refine GL.doneF ?_
     refine goOn ?_
     refine Wp.condI rfl (fun h67 => ?_) (fun h67 => ?_)
     ·skip
      have h8b := h67
      refine Wp.regI I0.mono ?_
      refine GL.move I0.mono (by conv => lhs; whnf) ?_
      refine GL.move I0.mono (by conv => lhs; whnf) ?_
      refine GL.buildSlice0 I0.mono (sz := 1) (z := [LV.int .i64 0]) rfl rfl rfl rfl (by decide) (by decide) (by decide) (FrzP.cons (S := []) (T := []) (Frz.aggc (S := []) (T := []) (Frz.pure rfl) Frz.aggn) rfl (by decide) rfl (FrzP.nil)) (by conv => lhs; simp only [fillE, List.replicate, List.map, pureC, List.set_cons_zero, List.set_cons_succ]) ?_
      intro g70
      refine GL.append1 I0.mono (f := ni) (v := n) (sz := 1) (z := [.int .i64 0]) rfl rfl rfl rfl rfl (by decide) (Nat.le_of_ble_eq_true rfl) rfl rfl rfl rfl rfl rfl rfl rfl rfl rfl rfl rfl rfl rfl rfl rfl (by omega) ?_
      refine GL.assign I0.mono (by conv => lhs; whnf) ?_
      refine GL.doneF ?_
      refine blockX.normal ?_
      first
      | refine ⟨⟨_, R.eraseIdx j, _, O⟩, (by dsimp only; omega), _, (LessS.weak (LessS.upd (LessS.upd (LessS.upd (LessS.upd (LessS.nil _) rfl) rfl) rfl) rfl) _), perm_skip hR (by simpa using h8b) hp8, _, (congrArg (St.mk _) (effM_eq (Has.cons rfl (Has.cons rfl (Has.cons rfl (Has.cons rfl Has.nil))))).symm)⟩
      | refine ⟨⟨_, R.eraseIdx j, _, O ++ [n]⟩, (by dsimp only; omega), _, (LessS.weak (LessS.upd (LessS.upd (LessS.upd (LessS.upd (LessS.nil _) rfl) rfl) (by rw [List.length_append]; rfl)) rfl) _), perm_take hR (by simpa using h8b) hp8, _, (congrArg (St.mk _) (effM_eq (Has.cons rfl (Has.cons rfl (Has.cons rfl (Has.cons rfl Has.nil))))).symm)⟩
     ·skip
      have h8b := h67
      refine Wp.skipI ?_
      refine blockX.normal ?_
      first
      | refine ⟨⟨_, R.eraseIdx j, _, O⟩, (by dsimp only; omega), _, (LessS.weak (LessS.upd (LessS.upd (LessS.upd (LessS.upd (LessS.nil _) rfl) rfl) rfl) rfl) _), perm_skip hR (by simpa using h8b) hp8, _, (congrArg (St.mk _) (effM_eq (Has.cons rfl (Has.cons rfl (Has.cons rfl (Has.cons rfl Has.nil))))).symm)⟩
      | refine ⟨⟨_, R.eraseIdx j, _, O ++ [n]⟩, (by dsimp only; omega), _, (LessS.weak (LessS.upd (LessS.upd (LessS.upd (LessS.upd (LessS.nil _) rfl) rfl) (by rw [List.length_append]; rfl)) rfl) _), perm_take hR (by simpa using h8b) hp8, _, (congrArg (St.mk _) (effM_eq (Has.cons rfl (Has.cons rfl (Has.cons rfl (Has.cons rfl Has.nil))))).symm)⟩
   ·skip
    refine Wp.regI I0.mono ?_
    refine GL.next I0.mono rfl rfl rfl rfl rfl rfl rfl (fun h0 => (ne_kb hz h0).elim) (fun j k v hj => ?_)
    obtain ⟨n, hR, rfl, rfl⟩ := kb_at hj
    rw [em_erase]
    have hel := erase_len hR
    refine GL.extract I0.mono rfl rfl ?_
    refine GL.doneF ?_
    refine goOn ?_
    refine Wp.seqI ?_
    refine Wp.condT rfl ?_
    refine Wp.skipI ?_
    refine goOn ?_
    refine Wp.blockI ?_
    refine Wp.seqI ?_
    refine Wp.regI I0.mono ?_
    refine GL.entry I0.mono rfl rfl rfl rfl rfl rfl ?_
    refine GL.extract I0.mono rfl rfl ?_
    refine GL.assign I0.mono (by conv => lhs; whnf) ?_
    refine GL.doneF ?_
    refine goOn ?_
    refine Wp.seqI ?_
    refine Wp.regI I0.mono ?_
    refine GL.move I0.mono (by conv => lhs; whnf) ?_
    refine GL.move I0.mono (by conv => lhs; whnf) ?_
    refine GL.setLook I0.mono rfl rfl rfl rfl rfl rfl rfl rfl rfl rfl ?_
    refine GL.un I0.mono rfl ?_
    refine GL.doneF ?_
    refine goOn ?_
    refine Wp.condI rfl (fun h53 => ?_) (fun h53 => ?_)
    ·skip
     have h6b := h53
     refine Wp.regI I0.mono ?_
     refine GL.move I0.mono (by conv => lhs; whnf) ?_
     refine GL.move I0.mono (by conv => lhs; whnf) ?_
     refine GL.buildSlice0 I0.mono (sz := 1) (z := [LV.int .i64 0]) rfl rfl rfl rfl (by decide) (by decide) (by decide) (FrzP.cons (S := []) (T := []) (Frz.aggc (S := []) (T := []) (Frz.pure rfl) Frz.aggn) rfl (by decide) rfl (FrzP.nil)) (by conv => lhs; simp only [fillE, List.replicate, List.map, pureC, List.set_cons_zero, List.set_cons_succ]) ?_
     intro g56
     refine GL.append1 I0.mono (f := ni) (v := n) (sz := 1) (z := [.int .i64 0]) rfl rfl rfl rfl rfl (by decide) (Nat.le_of_ble_eq_true rfl) rfl rfl rfl rfl rfl rfl rfl rfl rfl rfl rfl rfl rfl rfl rfl rfl (by omega) ?_
     refine GL.assign I0.mono (by conv => lhs; whnf) ?_
     refine GL.doneF ?_
     refine blockX.normal ?_
     first
     | refine ⟨⟨_, R.eraseIdx j, _, O⟩, (by dsimp only; omega), _, (LessS.weak (LessS.upd (LessS.upd (LessS.upd (LessS.upd (LessS.nil _) rfl) rfl) rfl) rfl) _), perm_skip hR (by simpa using h6b) hp6, _, (congrArg (St.mk _) (effM_eq (Has.cons rfl (Has.cons rfl (Has.cons rfl (Has.cons rfl Has.nil))))).symm)⟩
     | refine ⟨⟨_, R.eraseIdx j, _, O ++ [n]⟩, (by dsimp only; omega), _, (LessS.weak (LessS.upd (LessS.upd (LessS.upd (LessS.upd (LessS.nil _) rfl) rfl) (by rw [List.length_append]; rfl)) rfl) _), perm_take hR (by simpa using h6b) hp6, _, (congrArg (St.mk _) (effM_eq (Has.cons rfl (Has.cons rfl (Has.cons rfl (Has.cons rfl Has.nil))))).symm)⟩
    ·skip
     have h6b := h53
     refine Wp.skipI ?_
     refine blockX.normal ?_
     first
     | refine ⟨⟨_, R.eraseIdx j, _, O⟩, (by dsimp only; omega), _, (LessS.weak (LessS.upd (LessS.upd (LessS.upd (LessS.upd (LessS.nil _) rfl) rfl) rfl) rfl) _), perm_skip hR (by simpa using h6b) hp6, _, (congrArg (St.mk _) (effM_eq (Has.cons rfl (Has.cons rfl (Has.cons rfl (Has.cons rfl Has.nil))))).symm)⟩
     | refine ⟨⟨_, R.eraseIdx j, _, O ++ [n]⟩, (by dsimp only; omega), _, (LessS.weak (LessS.upd (LessS.upd (LessS.upd (LessS.upd (LessS.nil _) rfl) rfl) (by rw [List.length_append]; rfl)) rfl) _), perm_take hR (by simpa using h6b) hp6, _, (congrArg (St.mk _) (effM_eq (Has.cons rfl (Has.cons rfl (Has.cons rfl (Has.cons rfl Has.nil))))).symm)⟩

end Go.Proofs.Ytffnlhjdlhpmjaa
