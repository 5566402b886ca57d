/- Sorting of keys, walked. -/
import Derived.Test.YtffnlhjdlhpmjaaProg
import Derived.Test.YtffnlhjdlhpmjaaKi
import Derived.Test.YtffnlhjdlhpmjaaSn
import Derived.Test.YtffnlhjdlhpmjaaMvD
import Derived.KernelRfl
set_option linter.all false
namespace Go.Proofs.Ytffnlhjdlhpmjaa
open Go.Proofs Mv
def orL : List Int → Int
  | [] => 0
  | x :: r => if x = 0 then orL r else x
theorem orL_at {l : List Int} {i : Nat} (hi : i < l.length) : orL (l.drop i) = if l.getD i default = 0 then orL (l.drop (i + 1)) else l.getD i default := by
  have : l.drop i = l.getD i default :: l.drop (i + 1) := by
    rw [List.drop_eq_getElem_cons hi]
    simp [hi, List.getD]
  rw [this, orL]

set_option maxRecDepth 100000 in
set_option maxHeartbeats 4000000 in
theorem or_ok (l : List Int) (hl : l.length < 9223372036854775808) : CallsV Try.prog 99 [.sl (em ni l)] (.int .i64 (orL l)) := by
  refine CallsR.intro (I0.sound _) mix Try.func99 rfl rfl (by simp [Try.f99]) (by kernel_rfl) (nb := 0) ?_
  unfold Try.f99
  refine Wp.seqI ?_
  refine Wp.regI I0.mono ?_
  refine GL.assign I0.mono (by conv => lhs; whnf) ?_
  refine GL.doneF ?_
  refine goOn ?_
  refine Wp.seqI ?_
  refine Wp.regI I0.mono ?_
  refine GL.assign I0.mono (by conv => lhs; whnf) ?_
  refine GL.doneF ?_
  refine goOn ?_
  refine Wp.seqI ?_
  refine Wp.seqI ?_
  refine Wp.regI I0.mono ?_
  refine GL.move I0.mono (by conv => lhs; whnf) ?_
  first | refine GL.lenF I0.mono rfl rfl (em_len _ _) ?_ | refine GL.lenO I0.mono rfl rfl rfl rfl ?_ | refine GL.lenN I0.mono rfl rfl ?_
  refine GL.move I0.mono (by conv => lhs; whnf) ?_
  refine GL.doneF ?_
  refine goOn ?_
  refine Wp.blockI ?_
  refine Wp.loopI I0.mono (α := Nat) (fun i st => (i ≤ l.length ∧ orL l = orL (l.drop i)) ∧ ∃ m0, st = ⟨(updS (updS (updS (updS (fun _ => LV.undef) 3 (.int .i64 0)) 6 (.sl (em ni l))) 7 (.int .i64 (l.length : Int))) 8 (.int .i64 (i : Int))), effM m0 []⟩) (fun i => l.length - i) 0 ⟨_, (LessS.weak (LessS.upd (LessS.upd (LessS.upd (LessS.upd (LessS.nil _) rfl) rfl) rfl) rfl) _), ⟨Nat.zero_le _, rfl⟩, _, (congrArg (St.mk _) (effM_eq Has.nil).symm)⟩ ?_
  rintro i _ ⟨⟨hi, hA⟩, m0, rfl⟩
  refine Wp.seqI ?_
  refine Wp.regI I0.mono ?_
  refine GL.bin I0.mono rfl ?_
  refine GL.doneF ?_
  refine goOn ?_
  refine Wp.seqI ?_
  refine Wp.condI rfl (fun h9 => ?_) (fun h9 => ?_)
  ·first | replace h9 := of_decide_eq_true h9 | replace h9 := bne_true h9 | skip
   refine Wp.skipI ?_
   refine goOn ?_
   refine Wp.seqI ?_
   refine Wp.blockI ?_
   refine Wp.seqI ?_
   refine Wp.regI I0.mono ?_
   first | refine GL.indexAddrF I0.mono (sz := 1) rfl rfl rfl rfl (by omega) (by first | omega | (rw [em_len]; omega)) (by intro e he; obtain ⟨a, -, rfl⟩ := List.mem_map.1 he; rfl) (by first | with_reducible exact Int.toNat_natCast _ | rfl) ?_ | refine GL.indexAddr I0.mono (sz := 1) rfl rfl rfl rfl rfl rfl rfl rfl (by omega) (by first | omega | (rw [em_len]; omega)) (by first | (conv => lhs; simp only [Nat.zero_add, Int.toNat_natCast]) | rfl) ?_
   first | refine GL.load I0.mono rfl rfl rfl rfl (by simp) rfl rfl ?_ | refine GL.loadF I0.mono rfl rfl (em_get (by omega)) rfl ?_
   refine GL.assign I0.mono (by conv => lhs; whnf) ?_
   refine GL.doneF ?_
   refine goOn ?_
   refine Wp.seqI ?_
   refine Wp.regI I0.mono ?_
   refine GL.move I0.mono (by conv => lhs; whnf) ?_
   refine GL.move I0.mono (by conv => lhs; whnf) ?_
   refine GL.bin I0.mono rfl ?_
   refine GL.doneF ?_
   refine goOn ?_
   refine Wp.condI rfl (fun h14 => ?_) (fun h14 => ?_)
   ·first | replace h14 := of_decide_eq_true h14 | replace h14 := bne_true h14 | skip
    refine Wp.seqI ?_
    refine Wp.regI I0.mono ?_
    refine GL.move I0.mono (by conv => lhs; whnf) ?_
    refine GL.assign I0.mono (by conv => lhs; whnf) ?_
    refine GL.doneF ?_
    refine goOn ?_
    refine Wp.retI ?_
    refine blockX.ret ?_
    refine thenX.ret ?_
    refine thenX.ret ?_
    refine blockX.ret ?_
    refine thenX.ret ?_
    refine RetX.ret ?_
    refine ⟨_, _, _, _, .cons (.tmp rfl) .nil, .frz (.pure rfl), List.nodup_nil, by simp, ?_⟩
    show LV.int _ _ = LV.int _ _
    congr 1
    rw [hA]
    first | (rw [List.drop_of_length_le (by omega)]; rfl) | (rw [orL_at (by omega), if_neg (by first | omega | (simpa using h14))])
   ·first | replace h14 := of_decide_eq_false h14 | replace h14 := bne_false h14 | skip
    refine Wp.skipI ?_
    refine blockX.normal ?_
    refine goOn ?_
    refine Wp.regI I0.mono ?_
    first | refine GL.addR I0.mono rfl rfl (by first | omega | assumption) ?_ | refine GL.bin I0.mono rfl ?_
    refine GL.move I0.mono (by conv => lhs; whnf) ?_
    refine GL.doneF ?_
    refine ⟨i + 1, (by dsimp only; omega), _, (LessS.weak (LessS.upd (LessS.upd (LessS.upd (LessS.upd (LessS.nil _) rfl) rfl) rfl) rfl) _), ⟨by omega, by rw [hA, orL_at (by omega), if_pos (by first | omega | (simpa using h14))]⟩, _, (congrArg (St.mk _) (effM_eq Has.nil).symm)⟩
  ·first | replace h9 := of_decide_eq_false h9 | replace h9 := bne_false h9 | skip
   refine Wp.exitI ?_
   refine thenX.exit ?_
   refine thenX.exit ?_
   refine blockX.out ?_
   refine goOn ?_
   refine Wp.seqI ?_
   refine Wp.regI I0.mono ?_
   refine GL.move I0.mono (by conv => lhs; whnf) ?_
   refine GL.assign I0.mono (by conv => lhs; whnf) ?_
   refine GL.doneF ?_
   refine goOn ?_
   refine Wp.retI ?_
   refine RetX.ret ?_
   refine ⟨_, _, _, _, .cons (.tmp rfl) .nil, .frz (.pure rfl), List.nodup_nil, by simp, ?_⟩
   show LV.int _ _ = LV.int _ _
   congr 1
   rw [hA]
   first | (rw [List.drop_of_length_le (by omega)]; rfl) | (rw [orL_at (by omega), if_neg (by first | omega | (simpa using h14))])

set_option maxRecDepth 100000 in
set_option maxHeartbeats 4000000 in
theorem cmpK_ok (a b : SKey) : CallsV Try.prog 98 [.agg (kk a), .agg (kk b)] (.int .i64 (cmpK a b)) := by
  refine CallsR.intro (I0.sound _) mix Try.func98 rfl rfl (by simp [Try.f98]) (by kernel_rfl) (nb := 0) ?_
  unfold Try.f98
  refine Wp.seqI ?_
  refine Wp.regI I0.mono ?_
  refine GL.box I0.mono (by conv => lhs; whnf) rfl (n := 2) rfl rfl ?_
  intro g2
  refine GL.box I0.mono (by conv => lhs; whnf) rfl (n := 2) rfl rfl ?_
  intro g3
  refine GL.assign I0.mono (by conv => lhs; whnf) ?_
  refine GL.doneF ?_
  refine goOn ?_
  refine Wp.seqI ?_
  refine Wp.regD ?_
  first | refine GL.fieldAddr I0.mono (o := 0) rfl rfl rfl rfl (by conv => lhs; whnf) ?_ | refine GL.fieldAddrF I0.mono (o := 0) rfl rfl (by conv => lhs; whnf) ?_
  first | refine GL.load I0.mono rfl rfl rfl rfl (by simp) rfl rfl ?_ | refine GL.loadF I0.mono rfl rfl (em_get (by omega)) rfl ?_
  first | refine GL.fieldAddr I0.mono (o := 0) rfl rfl rfl rfl (by conv => lhs; whnf) ?_ | refine GL.fieldAddrF I0.mono (o := 0) rfl rfl (by conv => lhs; whnf) ?_
  first | refine GL.load I0.mono rfl rfl rfl rfl (by simp) rfl rfl ?_ | refine GL.loadF I0.mono rfl rfl (em_get (by omega)) rfl ?_
  refine GL.call0 I0.mono rfl (Frz.aggc (by first | exact Frz.pure rfl | exact Frz.pures rfl | exact Frz.nils | exact Frz.fn Frz.aggn | exact Frz.whole rfl rfl rfl rfl (by first | exact em_len _ _ | (rw [em_len]; omega)) | exact (Frz.aggc (by first | exact Frz.pure rfl | exact Frz.nils | exact Frz.whole rfl rfl rfl rfl (by first | exact em_len _ _ | (rw [em_len]; omega))) (Frz.aggc (by first | exact Frz.pure rfl | exact Frz.nils | exact Frz.whole rfl rfl rfl rfl (by first | exact em_len _ _ | (rw [em_len]; omega))) (Frz.aggc (by first | exact Frz.pure rfl | exact Frz.nils | exact Frz.whole rfl rfl rfl rfl (by first | exact em_len _ _ | (rw [em_len]; omega))) (Frz.aggc (by first | exact Frz.pure rfl | exact Frz.nils | exact Frz.whole rfl rfl rfl rfl (by first | exact em_len _ _ | (rw [em_len]; omega))) Frz.aggn))))) (Frz.aggc (by first | exact Frz.pure rfl | exact Frz.pures rfl | exact Frz.nils | exact Frz.fn Frz.aggn | exact Frz.whole rfl rfl rfl rfl (by first | exact em_len _ _ | (rw [em_len]; omega)) | exact (Frz.aggc (by first | exact Frz.pure rfl | exact Frz.nils | exact Frz.whole rfl rfl rfl rfl (by first | exact em_len _ _ | (rw [em_len]; omega))) (Frz.aggc (by first | exact Frz.pure rfl | exact Frz.nils | exact Frz.whole rfl rfl rfl rfl (by first | exact em_len _ _ | (rw [em_len]; omega))) (Frz.aggc (by first | exact Frz.pure rfl | exact Frz.nils | exact Frz.whole rfl rfl rfl rfl (by first | exact em_len _ _ | (rw [em_len]; omega))) (Frz.aggc (by first | exact Frz.pure rfl | exact Frz.nils | exact Frz.whole rfl rfl rfl rfl (by first | exact em_len _ _ | (rw [em_len]; omega))) Frz.aggn))))) (Frz.aggn))) (cmp_ok _ _) rfl rfl (fun _ => rfl) ?_
  first | refine GL.fieldAddr I0.mono (o := 1) rfl rfl rfl rfl (by conv => lhs; whnf) ?_ | refine GL.fieldAddrF I0.mono (o := 1) rfl rfl (by conv => lhs; whnf) ?_
  first | refine GL.load I0.mono rfl rfl rfl rfl (by simp) rfl rfl ?_ | refine GL.loadF I0.mono rfl rfl (em_get (by omega)) rfl ?_
  first | refine GL.fieldAddr I0.mono (o := 1) rfl rfl rfl rfl (by conv => lhs; whnf) ?_ | refine GL.fieldAddrF I0.mono (o := 1) rfl rfl (by conv => lhs; whnf) ?_
  first | refine GL.load I0.mono rfl rfl rfl rfl (by simp) rfl rfl ?_ | refine GL.loadF I0.mono rfl rfl (em_get (by omega)) rfl ?_
  refine GL.call0 I0.mono rfl (Frz.aggc (by first | exact Frz.pure rfl | exact Frz.pures rfl | exact Frz.nils | exact Frz.fn Frz.aggn | exact Frz.whole rfl rfl rfl rfl (by first | exact em_len _ _ | (rw [em_len]; omega)) | exact (Frz.aggc (by first | exact Frz.pure rfl | exact Frz.nils | exact Frz.whole rfl rfl rfl rfl (by first | exact em_len _ _ | (rw [em_len]; omega))) (Frz.aggc (by first | exact Frz.pure rfl | exact Frz.nils | exact Frz.whole rfl rfl rfl rfl (by first | exact em_len _ _ | (rw [em_len]; omega))) (Frz.aggc (by first | exact Frz.pure rfl | exact Frz.nils | exact Frz.whole rfl rfl rfl rfl (by first | exact em_len _ _ | (rw [em_len]; omega))) (Frz.aggc (by first | exact Frz.pure rfl | exact Frz.nils | exact Frz.whole rfl rfl rfl rfl (by first | exact em_len _ _ | (rw [em_len]; omega))) Frz.aggn))))) (Frz.aggc (by first | exact Frz.pure rfl | exact Frz.pures rfl | exact Frz.nils | exact Frz.fn Frz.aggn | exact Frz.whole rfl rfl rfl rfl (by first | exact em_len _ _ | (rw [em_len]; omega)) | exact (Frz.aggc (by first | exact Frz.pure rfl | exact Frz.nils | exact Frz.whole rfl rfl rfl rfl (by first | exact em_len _ _ | (rw [em_len]; omega))) (Frz.aggc (by first | exact Frz.pure rfl | exact Frz.nils | exact Frz.whole rfl rfl rfl rfl (by first | exact em_len _ _ | (rw [em_len]; omega))) (Frz.aggc (by first | exact Frz.pure rfl | exact Frz.nils | exact Frz.whole rfl rfl rfl rfl (by first | exact em_len _ _ | (rw [em_len]; omega))) (Frz.aggc (by first | exact Frz.pure rfl | exact Frz.nils | exact Frz.whole rfl rfl rfl rfl (by first | exact em_len _ _ | (rw [em_len]; omega))) Frz.aggn))))) (Frz.aggn))) (cmp_ok _ _) rfl rfl (fun _ => rfl) ?_
  refine GL.buildSlice0 I0.mono (sz := 1) (z := [LV.int .i64 0]) (es := em ni [cmpI a.kind b.kind, cmpI a.n b.n]) rfl rfl rfl rfl (by decide) (by decide) (by decide) (FrzP.cons (S := []) (T := []) (Frz.aggc (S := []) (T := []) (Frz.pure rfl) Frz.aggn) rfl (by decide) rfl (FrzP.cons (S := []) (T := []) (Frz.aggc (S := []) (T := []) (Frz.pure rfl) Frz.aggn) rfl (by decide) rfl (FrzP.nil))) rfl ?_
  intro g15
  refine GL.callFlT rfl (Frz.aggc (by exact Frz.whole rfl rfl rfl rfl rfl) Frz.aggn) (or_ok _ (by simp)) (FlatI.sca rfl) rfl rfl ?_
  refine GL.assign I0.mono (by conv => lhs; whnf) ?_
  refine GL.doneT (by kernel_rfl) ?_
  refine goOn ?_
  refine Wp.retI ?_
  refine RetX.ret ?_
  refine ⟨_, _, _, _, .cons (.tmp rfl) .nil, .frz (.pure rfl), List.nodup_nil, by simp, ?_⟩
  show LV.int _ _ = LV.int _ _
  congr 1
  show (if cmpI a.kind b.kind = 0 then (if cmpI a.n b.n = 0 then 0 else cmpI a.n b.n) else cmpI a.kind b.kind) = _
  unfold cmpK
  split
  · split <;> simp [*]
  · rfl

set_option maxRecDepth 100000 in
set_option maxHeartbeats 4000000 in
theorem isrtK (c : SKey → SKey → Int) (x : SKey) (r0 : List SKey) (hl : (x :: r0).length < 4611686018427387904) (A : FuncId) (hA : ∀ a b, CallsV Try.prog A [.agg (kk a), .agg (kk b)] (.int .i64 (c a b))) : CallsM Try.prog 162 [.slo 2 (em kk (x :: r0)), .int .i64 0, .int .i64 ((x :: r0).length : Int), .fn A []] (some 0) fun res q => res = .tup [] ∧ q = .slo 2 (em kk (isortC c [] (x :: r0))) := by
  refine CallsM.intro (ls := [.own 500000000 0 0 (x :: r0).length none, .int .i64 0, .int .i64 ((x :: r0).length : Int), .fn A []]) (e := [(500000000, ⟨0, false, .slc, 2, em kk (x :: r0)⟩)]) (ju := some (.own 500000000 0 0 (x :: r0).length none)) (I0.sound _) mix Try.func162 rfl rfl (by simp [Try.f162]) (by kernel_rfl) (nb := 0) rfl (by simp [impAs, impT, impV, impC, genAt, em_len]) (fun k hk => by cases hk; exact ⟨_, rfl, rfl⟩) (fun h => by cases h) ?_
  unfold Try.f162
  refine Wp.seqI ?_
  refine Wp.regI I0.mono ?_
  refine GL.move I0.mono (by conv => lhs; whnf) ?_
  first | refine GL.addR I0.mono rfl rfl (by first | omega | assumption) ?_ | refine GL.bin I0.mono rfl ?_
  refine GL.assign I0.mono (by conv => lhs; whnf) ?_
  refine GL.doneF ?_
  refine goOn ?_
  refine Wp.blockI ?_
  refine Wp.loopI I0.mono (α := Nat × List SKey × List SKey) (fun ⟨i, p, r⟩ st => (i = p.length ∧ p.length + r.length = (x :: r0).length ∧ isortC c p r = isortC c [] (x :: r0)) ∧ ∃ m0, st = ⟨(updS (updS (updS (updS (updS (fun _ => LV.undef) 0 (.own 500000000 0 0 (x :: r0).length none)) 1 (.int .i64 0)) 2 (.int .i64 ((x :: r0).length : Int))) 3 (.fn A [])) 8 (.int .i64 (i : Int))), effM m0 [(500000000, ⟨0, false, .slc, 2, em kk (p ++ r)⟩)]⟩) (fun ⟨i, p, r⟩ => r.length) ⟨1, [x], r0⟩ ⟨_, (LessS.weak (LessS.upd (LessS.upd (LessS.upd (LessS.upd (LessS.upd (LessS.nil _) rfl) rfl) rfl) rfl) rfl) _), ⟨rfl, by show 1 + r0.length = r0.length + 1; omega, rfl⟩, _, (congrArg (St.mk _) (effM_eq (Has.cons rfl Has.nil)).symm)⟩ ?_
  rintro ⟨i, p, r⟩ _ ⟨⟨hi, hpr, hI⟩, m0, rfl⟩
  refine Wp.seqI ?_
  refine Wp.seqI ?_
  refine Wp.regI I0.mono ?_
  refine GL.move I0.mono (by conv => lhs; whnf) ?_
  refine GL.move I0.mono (by conv => lhs; whnf) ?_
  refine GL.bin I0.mono rfl ?_
  refine GL.doneF ?_
  refine goOn ?_
  refine Wp.condI rfl (fun h14 => ?_) (fun h14 => ?_)
  ·first | replace h14 := of_decide_eq_true h14 | replace h14 := bne_true h14 | skip
   obtain ⟨y, r', rfl⟩ : ∃ y r', r = y :: r' := by
         cases r with
         | nil => rw [List.length_nil] at hpr; omega
         | cons a b => exact ⟨a, b, rfl⟩
   rw [List.length_cons] at hpr
   rw [← mid_full p y r']
   refine Wp.skipI ?_
   refine goOn ?_
   refine Wp.seqI ?_
   refine Wp.blockI ?_
   refine Wp.seqI ?_
   refine Wp.regI I0.mono ?_
   refine GL.move I0.mono (by conv => lhs; whnf) ?_
   refine GL.assign I0.mono (by conv => lhs; whnf) ?_
   refine GL.doneF ?_
   refine goOn ?_
   refine Wp.blockI ?_
   refine Wp.loopI I0.mono (α := Nat) (fun j st => (j ≤ p.length ∧ posC c y p p.length = posC c y p j) ∧ ∃ m0, st = ⟨(updS (updS (updS (updS (updS (updS (fun _ => LV.undef) 0 (.own 500000000 0 0 (x :: r0).length none)) 1 (.int .i64 0)) 2 (.int .i64 ((x :: r0).length : Int))) 3 (.fn A [])) 8 (.int .i64 (i : Int))) 9 (.int .i64 (j : Int))), effM m0 [(500000000, ⟨0, false, .slc, 2, em kk (mid p y r' j)⟩)]⟩) (fun j => j) p.length ⟨_, (LessS.weak (LessS.upd (LessS.upd (LessS.upd (LessS.upd (LessS.upd (LessS.upd (LessS.nil _) rfl) rfl) rfl) rfl) rfl) (by show LV.int _ _ = LV.int _ _; rw [hi])) _), ⟨Nat.le_refl _, rfl⟩, _, (congrArg (St.mk _) (effM_eq (Has.cons rfl Has.nil)).symm)⟩ ?_
   rintro j _ ⟨⟨hj, hP⟩, m0, rfl⟩
   refine Wp.seqI ?_
   refine Wp.seqI ?_
   refine Wp.regD ?_
   refine GL.move I0.mono (by conv => lhs; whnf) ?_
   refine GL.move I0.mono (by conv => lhs; whnf) ?_
   refine GL.bin I0.mono rfl ?_
   refine GL.move I0.mono (by conv => lhs; whnf) ?_
   refine GL.splitAt 21 rfl (fun h21 => ?_) (fun h21 => ?_)
   ·first | rw [h21] | skip
    replace h21 := of_decide_eq_true h21
    refine GL.guardT rfl ?_
    refine GL.move I0.mono (by conv => lhs; whnf) ?_
    refine GL.guardT rfl ?_
    refine GL.move I0.mono (by conv => lhs; whnf) ?_
    refine GL.guardT rfl ?_
    refine GL.move I0.mono (by conv => lhs; whnf) ?_
    refine GL.guardT rfl ?_
    refine GL.indexAddr I0.mono (sz := 2) (j := j) rfl rfl rfl rfl rfl rfl rfl rfl (by omega) (by omega) (by omega) ?_
    refine GL.guardT rfl ?_
    first | refine GL.loadW I0.mono (n := 2) rfl rfl rfl rfl (by simp) (by first | exact mid_at rfl (by omega) | exact mid_pr (by omega) (by omega)) rfl rfl ?_ | refine GL.loadFW I0.mono (n := 2) rfl rfl (em_get (by omega)) rfl rfl ?_ | refine GL.loadA I0.mono (n := 2) rfl rfl rfl rfl (by simp) (by first | exact mid_at rfl (by omega) | exact mid_pr (by omega) (by omega)) rfl (Nat.le_of_ble_eq_true rfl) (by first | (conv => lhs; simp only [List.take_succ_cons, List.take_zero, List.drop_succ_cons, List.drop_zero, List.nil_append, List.cons_append, List.drop_nil, List.append_nil, List.take_nil, List.set_cons_zero, List.set_cons_succ, Nat.zero_add, ni, nr, nc, ns, np, ic, nt, ei, cellsL]) | rfl) ?_ | refine GL.loadFA I0.mono (n := 2) rfl rfl (em_get (by omega)) rfl (Nat.le_of_ble_eq_true rfl) (by first | (conv => lhs; simp only [List.take_succ_cons, List.take_zero, List.drop_succ_cons, List.drop_zero, List.nil_append, List.cons_append, List.drop_nil, List.append_nil, List.take_nil, List.set_cons_zero, List.set_cons_succ, Nat.zero_add, ni, nr, nc, ns, np, ic, nt, ei, cellsL]) | rfl) ?_
    refine GL.guardT rfl ?_
    refine GL.move I0.mono (by conv => lhs; whnf) ?_
    refine GL.guardT rfl ?_
    refine GL.move I0.mono (by conv => lhs; whnf) ?_
    refine GL.guardT rfl ?_
    first | refine GL.subR I0.mono rfl rfl (by first | omega | assumption) ?_ | refine GL.bin I0.mono rfl ?_
    refine GL.guardT rfl ?_
    refine GL.indexAddr I0.mono (sz := 2) (j := j - 1) rfl rfl rfl rfl rfl rfl rfl rfl (by omega) (by omega) (by omega) ?_
    refine GL.guardT rfl ?_
    first | refine GL.loadW I0.mono (n := 2) rfl rfl rfl rfl (by simp) (by first | exact mid_at rfl (by omega) | exact mid_pr (by omega) (by omega)) rfl rfl ?_ | refine GL.loadFW I0.mono (n := 2) rfl rfl (em_get (by omega)) rfl rfl ?_ | refine GL.loadA I0.mono (n := 2) rfl rfl rfl rfl (by simp) (by first | exact mid_at rfl (by omega) | exact mid_pr (by omega) (by omega)) rfl (Nat.le_of_ble_eq_true rfl) (by first | (conv => lhs; simp only [List.take_succ_cons, List.take_zero, List.drop_succ_cons, List.drop_zero, List.nil_append, List.cons_append, List.drop_nil, List.append_nil, List.take_nil, List.set_cons_zero, List.set_cons_succ, Nat.zero_add, ni, nr, nc, ns, np, ic, nt, ei, cellsL]) | rfl) ?_ | refine GL.loadFA I0.mono (n := 2) rfl rfl (em_get (by omega)) rfl (Nat.le_of_ble_eq_true rfl) (by first | (conv => lhs; simp only [List.take_succ_cons, List.take_zero, List.drop_succ_cons, List.drop_zero, List.nil_append, List.cons_append, List.drop_nil, List.append_nil, List.take_nil, List.set_cons_zero, List.set_cons_succ, Nat.zero_add, ni, nr, nc, ns, np, ic, nt, ei, cellsL]) | rfl) ?_
    refine GL.guardT rfl ?_
    refine GL.call0 I0.mono rfl (Frz.aggc (by first | exact Frz.pure rfl | exact Frz.pures rfl | exact Frz.nils | exact Frz.fn Frz.aggn | exact Frz.whole rfl rfl rfl rfl (by first | exact em_len _ _ | (rw [em_len]; omega)) | exact (Frz.aggc (by first | exact Frz.pure rfl | exact Frz.nils | exact Frz.whole rfl rfl rfl rfl (by first | exact em_len _ _ | (rw [em_len]; omega))) (Frz.aggc (by first | exact Frz.pure rfl | exact Frz.nils | exact Frz.whole rfl rfl rfl rfl (by first | exact em_len _ _ | (rw [em_len]; omega))) (Frz.aggc (by first | exact Frz.pure rfl | exact Frz.nils | exact Frz.whole rfl rfl rfl rfl (by first | exact em_len _ _ | (rw [em_len]; omega))) (Frz.aggc (by first | exact Frz.pure rfl | exact Frz.nils | exact Frz.whole rfl rfl rfl rfl (by first | exact em_len _ _ | (rw [em_len]; omega))) Frz.aggn))))) (Frz.aggc (by first | exact Frz.pure rfl | exact Frz.pures rfl | exact Frz.nils | exact Frz.fn Frz.aggn | exact Frz.whole rfl rfl rfl rfl (by first | exact em_len _ _ | (rw [em_len]; omega)) | exact (Frz.aggc (by first | exact Frz.pure rfl | exact Frz.nils | exact Frz.whole rfl rfl rfl rfl (by first | exact em_len _ _ | (rw [em_len]; omega))) (Frz.aggc (by first | exact Frz.pure rfl | exact Frz.nils | exact Frz.whole rfl rfl rfl rfl (by first | exact em_len _ _ | (rw [em_len]; omega))) (Frz.aggc (by first | exact Frz.pure rfl | exact Frz.nils | exact Frz.whole rfl rfl rfl rfl (by first | exact em_len _ _ | (rw [em_len]; omega))) (Frz.aggc (by first | exact Frz.pure rfl | exact Frz.nils | exact Frz.whole rfl rfl rfl rfl (by first | exact em_len _ _ | (rw [em_len]; omega))) Frz.aggn))))) (Frz.aggn))) (hA _ _) rfl rfl (fun _ => rfl) ?_
    refine GL.guardT rfl ?_
    refine GL.bin I0.mono rfl ?_
    refine GL.pick I0.mono rfl (by conv => lhs; whnf) ?_
    refine GL.doneT (by kernel_rfl) ?_
    refine goOn ?_
    refine Wp.condI rfl (fun h34 => ?_) (fun h34 => ?_)
    ·first | replace h34 := of_decide_eq_true h34 | replace h34 := bne_true h34 | skip
     have hgo := posC_go (c := c) (x := y) (p := p) (j := j) (by omega) h34
     refine Wp.skipI ?_
     refine goOn ?_
     refine Wp.seqI ?_
     refine Wp.blockI ?_
     refine Wp.regD ?_
     refine GL.move I0.mono (by conv => lhs; whnf) ?_
     refine GL.move I0.mono (by conv => lhs; whnf) ?_
     refine GL.move I0.mono (by conv => lhs; whnf) ?_
     refine GL.move I0.mono (by conv => lhs; whnf) ?_
     first | refine GL.subR I0.mono rfl rfl (by first | omega | assumption) ?_ | refine GL.bin I0.mono rfl ?_
     refine GL.move I0.mono (by conv => lhs; whnf) ?_
     refine GL.move I0.mono (by conv => lhs; whnf) ?_
     first | refine GL.subR I0.mono rfl rfl (by first | omega | assumption) ?_ | refine GL.bin I0.mono rfl ?_
     refine GL.indexAddr I0.mono (sz := 2) (j := j - 1) rfl rfl rfl rfl rfl rfl rfl rfl (by omega) (by omega) (by omega) ?_
     first | refine GL.loadW I0.mono (n := 2) rfl rfl rfl rfl (by simp) (by first | exact mid_at rfl (by omega) | exact mid_pr (by omega) (by omega)) rfl rfl ?_ | refine GL.loadFW I0.mono (n := 2) rfl rfl (em_get (by omega)) rfl rfl ?_ | refine GL.loadA I0.mono (n := 2) rfl rfl rfl rfl (by simp) (by first | exact mid_at rfl (by omega) | exact mid_pr (by omega) (by omega)) rfl (Nat.le_of_ble_eq_true rfl) (by first | (conv => lhs; simp only [List.take_succ_cons, List.take_zero, List.drop_succ_cons, List.drop_zero, List.nil_append, List.cons_append, List.drop_nil, List.append_nil, List.take_nil, List.set_cons_zero, List.set_cons_succ, Nat.zero_add, ni, nr, nc, ns, np, ic, nt, ei, cellsL]) | rfl) ?_ | refine GL.loadFA I0.mono (n := 2) rfl rfl (em_get (by omega)) rfl (Nat.le_of_ble_eq_true rfl) (by first | (conv => lhs; simp only [List.take_succ_cons, List.take_zero, List.drop_succ_cons, List.drop_zero, List.nil_append, List.cons_append, List.drop_nil, List.append_nil, List.take_nil, List.set_cons_zero, List.set_cons_succ, Nat.zero_add, ni, nr, nc, ns, np, ic, nt, ei, cellsL]) | rfl) ?_
     refine GL.move I0.mono (by conv => lhs; whnf) ?_
     refine GL.move I0.mono (by conv => lhs; whnf) ?_
     refine GL.indexAddr I0.mono (sz := 2) (j := j) rfl rfl rfl rfl rfl rfl rfl rfl (by omega) (by omega) (by omega) ?_
     first | refine GL.loadW I0.mono (n := 2) rfl rfl rfl rfl (by simp) (by first | exact mid_at rfl (by omega) | exact mid_pr (by omega) (by omega)) rfl rfl ?_ | refine GL.loadFW I0.mono (n := 2) rfl rfl (em_get (by omega)) rfl rfl ?_ | refine GL.loadA I0.mono (n := 2) rfl rfl rfl rfl (by simp) (by first | exact mid_at rfl (by omega) | exact mid_pr (by omega) (by omega)) rfl (Nat.le_of_ble_eq_true rfl) (by first | (conv => lhs; simp only [List.take_succ_cons, List.take_zero, List.drop_succ_cons, List.drop_zero, List.nil_append, List.cons_append, List.drop_nil, List.append_nil, List.take_nil, List.set_cons_zero, List.set_cons_succ, Nat.zero_add, ni, nr, nc, ns, np, ic, nt, ei, cellsL]) | rfl) ?_ | refine GL.loadFA I0.mono (n := 2) rfl rfl (em_get (by omega)) rfl (Nat.le_of_ble_eq_true rfl) (by first | (conv => lhs; simp only [List.take_succ_cons, List.take_zero, List.drop_succ_cons, List.drop_zero, List.nil_append, List.cons_append, List.drop_nil, List.append_nil, List.take_nil, List.set_cons_zero, List.set_cons_succ, Nat.zero_add, ni, nr, nc, ns, np, ic, nt, ei, cellsL]) | rfl) ?_
     refine GL.indexAddr I0.mono (sz := 2) (j := j) rfl rfl rfl rfl rfl rfl rfl rfl (by omega) (by omega) (by omega) ?_
     refine GL.storeS I0.mono (n := 2) (es' := (em kk (mid p y r' j)).set j (kk (p.getD (j - 1) default))) rfl rfl rfl rfl rfl rfl (mid_at rfl (by omega)) rfl rfl rfl rfl (Nat.le_of_ble_eq_true rfl) rfl rfl ?_
     refine GL.indexAddr I0.mono (sz := 2) (j := j - 1) rfl rfl rfl rfl rfl rfl rfl rfl (by omega) (by omega) (by omega) ?_
     refine GL.storeS I0.mono (n := 2) (es' := em kk (mid p y r' (j - 1))) rfl rfl rfl rfl rfl rfl (by show ((em kk (mid p y r' j)).set j (kk (p.getD (j - 1) default)))[j - 1]? = _; rw [List.getElem?_set_ne (by omega)]; exact mid_pr (by omega) (by omega)) rfl rfl rfl rfl (Nat.le_of_ble_eq_true rfl) rfl (mid_swap (p := p) (x := y) (r := r') (i := j - 1) (j := j) (by omega) (by omega)) ?_
     refine GL.doneT (by kernel_rfl) ?_
     refine blockX.normal ?_
     refine goOn ?_
     refine Wp.regI I0.mono ?_
     refine GL.move I0.mono (by conv => lhs; whnf) ?_
     first | refine GL.subR I0.mono rfl rfl (by first | omega | assumption) ?_ | refine GL.bin I0.mono rfl ?_
     refine GL.assign I0.mono (by conv => lhs; whnf) ?_
     refine GL.doneF ?_
     refine ⟨j - 1, (by dsimp only; omega), _, (LessS.weak (LessS.upd (LessS.upd (LessS.upd (LessS.upd (LessS.upd (LessS.upd (LessS.nil _) rfl) rfl) rfl) rfl) rfl) (by show LV.int _ _ = LV.int _ _; congr 1; omega)) _), ⟨by omega, by rw [hP, hgo]⟩, _, (congrArg (St.mk _) (effM_eq (Has.cons rfl Has.nil)).symm)⟩
    ·first | replace h34 := of_decide_eq_false h34 | replace h34 := bne_false h34 | skip
     have hq := posC_stop (c := c) (x := y) (p := p) (j := j) (by omega) h34
     refine Wp.exitI ?_
     refine thenX.exit ?_
     refine thenX.exit ?_
     refine blockX.out ?_
     refine blockX.normal ?_
     refine goOn ?_
     refine Wp.regI I0.mono ?_
     refine GL.move I0.mono (by conv => lhs; whnf) ?_
     first | refine GL.addR I0.mono rfl rfl (by first | omega | assumption) ?_ | refine GL.bin I0.mono rfl ?_
     refine GL.assign I0.mono (by conv => lhs; whnf) ?_
     refine GL.doneF ?_
     rw [show mid p y r' j = insC c p y ++ r' from by rw [← mid_posC c, hP, hq]]
     have hil := insC_len c p y
     refine ⟨⟨i + 1, insC c p y, r'⟩, (by simp), _, (LessS.weak (LessS.upd (LessS.upd (LessS.upd (LessS.upd (LessS.upd (LessS.nil _) rfl) rfl) rfl) rfl) rfl) _), ⟨by omega, by omega, hI⟩, _, (congrArg (St.mk _) (effM_eq (Has.cons rfl Has.nil)).symm)⟩
   ·first | rw [h21] | skip
    replace h21 := of_decide_eq_false h21
    have hq := posC_zero (c := c) (x := y) (p := p) (j := j) (by omega)
    refine GL.guardF rfl ?_
    refine GL.guardF rfl ?_
    refine GL.guardF rfl ?_
    refine GL.guardF rfl ?_
    refine GL.guardF rfl ?_
    refine GL.guardF rfl ?_
    refine GL.guardF rfl ?_
    refine GL.guardF rfl ?_
    refine GL.guardF rfl ?_
    refine GL.guardF rfl ?_
    refine GL.guardF rfl ?_
    refine GL.guardF rfl ?_
    refine GL.pick I0.mono rfl (by conv => lhs; whnf) ?_
    refine GL.doneT (by kernel_rfl) ?_
    refine goOn ?_
    refine Wp.condF rfl ?_
    refine Wp.exitI ?_
    refine thenX.exit ?_
    refine thenX.exit ?_
    refine blockX.out ?_
    refine blockX.normal ?_
    refine goOn ?_
    refine Wp.regI I0.mono ?_
    refine GL.move I0.mono (by conv => lhs; whnf) ?_
    first | refine GL.addR I0.mono rfl rfl (by first | omega | assumption) ?_ | refine GL.bin I0.mono rfl ?_
    refine GL.assign I0.mono (by conv => lhs; whnf) ?_
    refine GL.doneF ?_
    rw [show mid p y r' j = insC c p y ++ r' from by rw [← mid_posC c, hP, hq]]
    have hil := insC_len c p y
    refine ⟨⟨i + 1, insC c p y, r'⟩, (by simp), _, (LessS.weak (LessS.upd (LessS.upd (LessS.upd (LessS.upd (LessS.upd (LessS.nil _) rfl) rfl) rfl) rfl) rfl) _), ⟨by omega, by omega, hI⟩, _, (congrArg (St.mk _) (effM_eq (Has.cons rfl Has.nil)).symm)⟩
  ·first | replace h14 := of_decide_eq_false h14 | replace h14 := bne_false h14 | skip
   refine Wp.exitI ?_
   refine thenX.exit ?_
   refine thenX.exit ?_
   refine blockX.out ?_
   refine RetJX.normal ?_
   obtain rfl : r = [] := List.eq_nil_of_length_eq_zero (by omega)
   have hpl : p.length = (x :: r0).length := by rw [← hpr]; simp
   refine ⟨_, _, _, _, _, .nil, .aggc (.tup .aggn) (.aggc (.slo (b := 500000000) rfl rfl rfl rfl (by rw [em_len, List.append_nil, hpl]; omega)) .aggn), by simp, by simp, rfl, ?_⟩
   show LV.slo 2 (List.drop 0 (em kk (p ++ []))) = _
   rw [List.drop_zero, List.append_nil, ← hI]
   rfl

set_option maxRecDepth 100000 in
set_option maxHeartbeats 4000000 in
theorem sortKQ (c : SKey → SKey → Int) (x : SKey) (r0 : List SKey) (hl : (x :: r0).length ≤ 12) (A : FuncId) (hA : ∀ a b, CallsV Try.prog A [.agg (kk a), .agg (kk b)] (.int .i64 (c a b))) (b : Int) : CallsM Try.prog 140 [.slo 2 (em kk (x :: r0)), .int .i64 0, .int .i64 ((x :: r0).length : Int), .int .i64 b, .fn A []] (some 0) fun res q => res = .tup [] ∧ q = .slo 2 (em kk (isortC c [] (x :: r0))) := by
  refine CallsM.intro (ls := [.own 500000000 0 0 (x :: r0).length none, .int .i64 0, .int .i64 ((x :: r0).length : Int), .int .i64 b, .fn A []]) (e := [(500000000, ⟨0, false, .slc, 2, em kk (x :: r0)⟩)]) (ju := some (.own 500000000 0 0 (x :: r0).length none)) (I0.sound _) mix Try.func140 rfl rfl (by simp [Try.f140]) (by kernel_rfl) (nb := 0) rfl (by simp [impAs, impT, impV, impC, genAt, em_len]) (fun k hk => by cases hk; exact ⟨_, rfl, rfl⟩) (fun h => by cases h) ?_
  unfold Try.f140
  refine Wp.seqI ?_
  refine Wp.regI I0.mono ?_
  refine GL.assign I0.mono (by conv => lhs; whnf) ?_
  refine GL.doneF ?_
  refine goOn ?_
  refine Wp.seqI ?_
  refine Wp.regI I0.mono ?_
  refine GL.assign I0.mono (by conv => lhs; whnf) ?_
  refine GL.doneF ?_
  refine goOn ?_
  refine Wp.blockI ?_
  refine Wp.loopI I0.mono (α := Unit) (fun _ st => (True) ∧ ∃ m0, st = ⟨(updS (updS (updS (updS (fun _ => LV.undef) 0 (.own 500000000 0 0 (x :: r0).length none)) 1 (.int .i64 0)) 2 (.int .i64 ((x :: r0).length : Int))) 4 (.fn A [])), effM m0 [(500000000, ⟨0, false, .slc, 2, em kk (x :: r0)⟩)]⟩) (fun _ => 0) () ⟨_, (LessS.weak (LessS.upd (LessS.upd (LessS.upd (LessS.upd (LessS.nil _) rfl) rfl) rfl) rfl) _), trivial, _, (congrArg (St.mk _) (effM_eq (Has.cons rfl Has.nil)).symm)⟩ ?_
  rintro _ _ ⟨-, m0, rfl⟩
  refine Wp.blockI ?_
  refine Wp.seqI ?_
  refine Wp.regI I0.mono ?_
  refine GL.move I0.mono (by conv => lhs; whnf) ?_
  refine GL.move I0.mono (by conv => lhs; whnf) ?_
  first | refine GL.subR I0.mono rfl rfl (by first | omega | assumption) ?_ | refine GL.bin I0.mono rfl ?_
  refine GL.assign I0.mono (by conv => lhs; whnf) ?_
  refine GL.doneF ?_
  refine goOn ?_
  refine Wp.seqI ?_
  refine Wp.seqI ?_
  refine Wp.regI I0.mono ?_
  refine GL.move I0.mono (by conv => lhs; whnf) ?_
  refine GL.bin I0.mono rfl ?_
  refine GL.doneF ?_
  refine goOn ?_
  refine Wp.condI rfl (fun h25 => ?_) (fun h25 => ?_)
  ·first | replace h25 := of_decide_eq_true h25 | replace h25 := bne_true h25 | skip
   refine Wp.seqI ?_
   refine Wp.regI I0.mono ?_
   refine GL.move I0.mono (by conv => lhs; whnf) ?_
   refine GL.move I0.mono (by conv => lhs; whnf) ?_
   refine GL.move I0.mono (by conv => lhs; whnf) ?_
   refine GL.move I0.mono (by conv => lhs; whnf) ?_
   refine GL.lendS I0.mono (T := []) (es' := em kk (isortC c [] (x :: r0))) rfl rfl rfl rfl rfl rfl rfl (by rw [em_len]) (by simp) rfl (by rw [em_len, em_len, isortC_len]; simp) (Frz.aggc (Frz.pure rfl) (Frz.aggc (Frz.pure rfl) (Frz.aggc (Frz.fn Frz.aggn) Frz.aggn))) (by decide) (isrtK c x r0 (by omega) A hA) ?_
   refine GL.doneF ?_
   refine goOn ?_
   refine Wp.retI ?_
   refine thenX.ret ?_
   refine blockX.ret ?_
   refine thenX.ret ?_
   refine blockX.ret ?_
   refine RetJX.ret ?_
   refine ⟨_, _, _, _, _, .nil, .aggc (.tup .aggn) (.aggc (.slo (b := 500000000) rfl rfl rfl rfl (by rw [em_len, isortC_len]; simp)) .aggn), by simp, by simp, rfl, rfl⟩
  ·first | replace h25 := of_decide_eq_false h25 | replace h25 := bne_false h25 | skip
   exact absurd h25 (by omega)

set_option maxRecDepth 100000 in
set_option maxHeartbeats 4000000 in
theorem sortKP (c : SKey → SKey → Int) (x : SKey) (r0 : List SKey) (hl : (x :: r0).length ≤ 12) (A : FuncId) (hA : ∀ a b, CallsV Try.prog A [.agg (kk a), .agg (kk b)] (.int .i64 (c a b))) : CallsM Try.prog 97 [.slo 2 (em kk (x :: r0)), .fn A []] (some 0) fun res q => res = .tup [] ∧ q = .slo 2 (em kk (isortC c [] (x :: r0))) := by
  refine CallsM.intro (ls := [.own 500000000 0 0 (x :: r0).length none, .fn A []]) (e := [(500000000, ⟨0, false, .slc, 2, em kk (x :: r0)⟩)]) (ju := some (.own 500000000 0 0 (x :: r0).length none)) (I0.sound _) mix Try.func97 rfl rfl (by simp [Try.f97]) (by kernel_rfl) (nb := 0) rfl (by simp [impAs, impT, impV, impC, genAt, em_len]) (fun k hk => by cases hk; exact ⟨_, rfl, rfl⟩) (fun h => by cases h) ?_
  unfold Try.f97
  refine Wp.seqI ?_
  refine Wp.regI I0.mono ?_
  refine GL.move I0.mono (by conv => lhs; whnf) ?_
  first | refine GL.lenF I0.mono rfl rfl (em_len _ _) ?_ | refine GL.lenO I0.mono rfl rfl rfl rfl ?_ | refine GL.lenN I0.mono rfl rfl ?_
  refine GL.assign I0.mono (by conv => lhs; whnf) ?_
  refine GL.doneF ?_
  refine goOn ?_
  obtain ⟨b, hb⟩ := bits_ok (x :: r0).length (by omega)
  refine Wp.regI I0.mono ?_
  refine GL.move I0.mono (by conv => lhs; whnf) ?_
  refine GL.move I0.mono (by conv => lhs; whnf) ?_
  refine GL.move I0.mono (by conv => lhs; whnf) ?_
  refine GL.conv I0.mono rfl rfl ?_
  rw [Go.IntWalk.u64_in ((x :: r0).length : Int) (by omega)]
  refine GL.call0 I0.mono rfl (Frz.aggc (by first | exact Frz.pure rfl | exact Frz.pures rfl | exact Frz.nils | exact Frz.fn Frz.aggn | exact Frz.whole rfl rfl rfl rfl (by first | exact em_len _ _ | (rw [em_len]; omega)) | exact (Frz.aggc (by first | exact Frz.pure rfl | exact Frz.nils | exact Frz.whole rfl rfl rfl rfl (by first | exact em_len _ _ | (rw [em_len]; omega))) (Frz.aggc (by first | exact Frz.pure rfl | exact Frz.nils | exact Frz.whole rfl rfl rfl rfl (by first | exact em_len _ _ | (rw [em_len]; omega))) (Frz.aggc (by first | exact Frz.pure rfl | exact Frz.nils | exact Frz.whole rfl rfl rfl rfl (by first | exact em_len _ _ | (rw [em_len]; omega))) (Frz.aggc (by first | exact Frz.pure rfl | exact Frz.nils | exact Frz.whole rfl rfl rfl rfl (by first | exact em_len _ _ | (rw [em_len]; omega))) Frz.aggn))))) (Frz.aggn)) (hb) rfl rfl (fun _ => rfl) ?_
  refine GL.move I0.mono (by conv => lhs; whnf) ?_
  refine GL.lendS I0.mono (T := []) (es' := em kk (isortC c [] (x :: r0))) rfl rfl rfl rfl rfl rfl rfl (by rw [em_len]) (by simp) rfl (by rw [em_len, em_len, isortC_len]; simp) (Frz.aggc (Frz.pure rfl) (Frz.aggc (Frz.pure rfl) (Frz.aggc (Frz.pure rfl) (Frz.aggc (Frz.fn Frz.aggn) Frz.aggn)))) (by decide) (sortKQ c x r0 hl A hA b) ?_
  refine GL.doneF ?_
  refine RetJX.normal ?_
  refine ⟨_, _, _, _, _, .nil, .aggc (.tup .aggn) (.aggc (.slo (b := 500000000) rfl rfl rfl rfl (by rw [em_len, isortC_len]; simp)) .aggn), by simp, by simp, rfl, rfl⟩

end Go.Proofs.Ytffnlhjdlhpmjaa
