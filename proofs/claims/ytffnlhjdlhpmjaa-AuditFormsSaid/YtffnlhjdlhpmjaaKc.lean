/- Removal and sorting, walked. -/
import Derived.Test.YtffnlhjdlhpmjaaProg
import Derived.Test.YtffnlhjdlhpmjaaKb
import Derived.KernelRfl
set_option linter.all false
namespace Go.Proofs.Ytffnlhjdlhpmjaa
open Go.Proofs Mv
theorem del_skip {α : Type} [Inhabited α] {p : α → Bool} {l s : List α} {i j : Nat} (hf : s.take i = (l.take j).filter (fun x => !p x)) (hj : j < l.length) (h : p (l.getD j default) = true) : s.take i = (l.take (j + 1)).filter (fun x => !p x) := by
  rw [take_snocG hj, List.filter_append, hf]
  simp only [List.filter_cons, h]
  simp
theorem del_keep {α : Type} [Inhabited α] {p : α → Bool} {l s : List α} {i j : Nat} (hf : s.take i = (l.take j).filter (fun x => !p x)) (hj : j < l.length) (hi : i < s.length) (h : p (l.getD j default) = false) : (s.set i (l.getD j default)).take (i + 1) = (l.take (j + 1)).filter (fun x => !p x) := by
  rw [take_snocG hj, List.filter_append, take_set hi, hf]
  simp only [List.filter_cons, h]
  simp
theorem cut_eq {α : Type} (f : α → List LV) (s : List α) (i : Nat) (B C : List (List LV)) (hi : i ≤ s.length) : List.take i ((em f s).take i ++ B ++ C) = em f (s.take i) := by
  rw [List.append_assoc, List.take_append_of_le_length (by rw [List.length_take, em_len]; omega), List.take_take, Nat.min_self]
  simp [em, List.map_take]
theorem cmp_lt {a b : Int} : cmpI a b < 0 ↔ a < b := by
  have := cmpI_neg a b
  simpa using this
theorem posI_go {α : Type} [Inhabited α] {k : α → Int} {x : α} {p : List α} {j : Nat} (h0 : 0 < j) (h : k x < k (p.getD (j - 1) default)) : posI k x p j = posI k x p (j - 1) := by
  obtain ⟨i, rfl⟩ : ∃ i, j = i + 1 := ⟨j - 1, by omega⟩
  rw [posI, Nat.add_sub_cancel, if_pos (by simpa using h)]
theorem posI_stop {α : Type} [Inhabited α] {k : α → Int} {x : α} {p : List α} {j : Nat} (h0 : 0 < j) (h : ¬ k x < k (p.getD (j - 1) default)) : posI k x p j = j := by
  obtain ⟨i, rfl⟩ : ∃ i, j = i + 1 := ⟨j - 1, by omega⟩
  rw [posI, if_neg (by simpa using h)]
theorem posI_zero {α : Type} [Inhabited α] {k : α → Int} {x : α} {p : List α} {j : Nat} (h : j = 0) : posI k x p j = j := by
  subst h
  rfl

set_option maxRecDepth 100000 in
set_option maxHeartbeats 4000000 in
theorem delT0 (l : List Turn) (hl : l.length ≤ 4294967296) (A : FuncId) (caps : List LV) (hcaps : caps.all pureL = true) (p : Turn → Bool) (hp : ∀ t ∈ l, CallsV Try.prog A ((.agg (kt t)) :: caps) (.bool (p t))) (hall : ∀ x ∈ l, p x = false) (hix : CallsV Try.prog 104 [.sl (em kt l), .fn A caps] (.int .i64 (-1))) : CallsM Try.prog 60 [.slo 3 (em kt l), .fn A caps] none fun res q => res = .slo 3 (em kt (l.filter fun x => !p x)) := by
  refine CallsM.intro (ls := [.own 500000000 0 0 l.length none, .fn A caps]) (e := [(500000000, ⟨0, false, .slc, 3, em kt l⟩)]) (ju := none) (I0.sound _) mix Try.func60 rfl rfl (by simp [Try.f60]) (by kernel_rfl) (nb := 0) rfl (by simp [impAs, impT, impV, impC, genAt, em_len]) (fun k hk => by cases hk) (fun _ => rfl) ?_
  unfold Try.f60
  refine Wp.seqI ?_
  refine Wp.regI I0.mono ?_
  refine GL.assign I0.mono (by conv => lhs; whnf) ?_
  refine GL.doneF ?_
  refine goOn ?_
  refine Wp.seqI ?_
  refine Wp.regI I0.mono ?_
  refine GL.move I0.mono (by conv => lhs; whnf) ?_
  refine GL.move I0.mono (by conv => lhs; whnf) ?_
  refine GL.callFl I0.mono rfl (Frz.aggc (by exact Frz.whole rfl rfl rfl rfl (by exact em_len _ _)) (Frz.aggc (Frz.fn (Frz.pures hcaps)) Frz.aggn)) hix (FlatI.sca rfl) rfl rfl ?_
  refine GL.assign I0.mono (by conv => lhs; whnf) ?_
  refine GL.doneF ?_
  refine goOn ?_
  refine Wp.seqI ?_
  refine Wp.seqI ?_
  refine Wp.regI I0.mono ?_
  refine GL.move I0.mono (by conv => lhs; whnf) ?_
  refine GL.bin I0.mono (v := .bool true) (by kernel_rfl) ?_
  refine GL.doneF ?_
  refine goOn ?_
  refine Wp.condT rfl ?_
  refine Wp.seqI ?_
  refine Wp.regI I0.mono ?_
  refine GL.move I0.mono (by conv => lhs; whnf) ?_
  refine GL.assign I0.mono (by conv => lhs; whnf) ?_
  refine GL.doneF ?_
  refine goOn ?_
  refine Wp.retI ?_
  refine thenX.ret ?_
  refine RetJX.ret ?_
  refine ⟨_, _, _, _, .cons (.tmp rfl) .nil, .slo rfl rfl rfl rfl (by rw [em_len]; simp), by simp, by simp, ?_⟩
  show LV.slo 3 (em kt l) = _
  rw [filter_prefix hall]

set_option maxRecDepth 100000 in
set_option maxHeartbeats 4000000 in
theorem delT1 (l : List Turn) (hl : l.length ≤ 4294967296) (A : FuncId) (caps : List LV) (hcaps : caps.all pureL = true) (p : Turn → Bool) (hp : ∀ t ∈ l, CallsV Try.prog A ((.agg (kt t)) :: caps) (.bool (p t))) (j0 : Nat) (hj0 : j0 < l.length) (hpj : p (l.getD j0 default) = true) (hbe : ∀ x ∈ l.take j0, p x = false) (hix : CallsV Try.prog 104 [.sl (em kt l), .fn A caps] (.int .i64 ((j0 : Int)))) : CallsM Try.prog 60 [.slo 3 (em kt l), .fn A caps] none fun res q => res = .slo 3 (em kt (l.filter fun x => !p x)) := by
  refine CallsM.intro (ls := [.own 500000000 0 0 l.length none, .fn A caps]) (e := [(500000000, ⟨0, false, .slc, 3, em kt l⟩)]) (ju := none) (I0.sound _) mix Try.func60 rfl rfl (by simp [Try.f60]) (by kernel_rfl) (nb := 0) rfl (by simp [impAs, impT, impV, impC, genAt, em_len]) (fun k hk => by cases hk) (fun _ => rfl) ?_
  unfold Try.f60
  refine Wp.seqI ?_
  refine Wp.regI I0.mono ?_
  refine GL.assign I0.mono (by conv => lhs; whnf) ?_
  refine GL.doneF ?_
  refine goOn ?_
  refine Wp.seqI ?_
  refine Wp.regI I0.mono ?_
  refine GL.move I0.mono (by conv => lhs; whnf) ?_
  refine GL.move I0.mono (by conv => lhs; whnf) ?_
  refine GL.callFl I0.mono rfl (Frz.aggc (by exact Frz.whole rfl rfl rfl rfl (by exact em_len _ _)) (Frz.aggc (Frz.fn (Frz.pures hcaps)) Frz.aggn)) hix (FlatI.sca rfl) rfl rfl ?_
  refine GL.assign I0.mono (by conv => lhs; whnf) ?_
  refine GL.doneF ?_
  refine goOn ?_
  refine Wp.seqI ?_
  refine Wp.seqI ?_
  refine Wp.regI I0.mono ?_
  refine GL.move I0.mono (by conv => lhs; whnf) ?_
  refine GL.bin I0.mono rfl ?_
  refine GL.doneF ?_
  refine goOn ?_
  refine Wp.condI rfl (fun h12 => ?_) (fun h12 => ?_)
  ·replace h12 := of_decide_eq_true h12
   exact absurd (show (j0 : Int) = -1 by simpa using h12) (by omega)
  ·replace h12 := of_decide_eq_false h12
   refine Wp.skipI ?_
   refine goOn ?_
   refine Wp.seqI ?_
   refine Wp.seqI ?_
   refine Wp.regI I0.mono ?_
   refine GL.move I0.mono (by conv => lhs; whnf) ?_
   refine GL.addR I0.mono rfl rfl (by omega) ?_
   refine GL.assign I0.mono (by conv => lhs; whnf) ?_
   refine GL.doneF ?_
   refine goOn ?_
   refine Wp.blockI ?_
   refine Wp.loopI I0.mono (α := Nat × Nat × List Turn) (fun ⟨i, j, s⟩ st => (i < j ∧ j ≤ l.length ∧ s.length = l.length ∧ s.take i = (l.take j).filter (fun x => !p x) ∧ s.drop j = l.drop j) ∧ ∃ m0, st = ⟨(updS (updS (updS (updS (fun _ => LV.undef) 0 (.own 500000000 0 0 l.length none)) 1 (.fn A caps)) 5 (.int .i64 (i : Int))) 6 (.int .i64 (j : Int))), effM m0 [(500000000, ⟨0, false, .slc, 3, em kt s⟩)]⟩) (fun ⟨i, j, s⟩ => l.length - j) ⟨j0, j0 + 1, l⟩ ⟨_, (LessS.weak (LessS.upd (LessS.upd (LessS.upd (LessS.upd (LessS.nil _) rfl) rfl) rfl) rfl) _), ⟨by omega, by omega, rfl, del_skip (filter_prefix hbe).symm hj0 hpj, rfl⟩, _, (congrArg (St.mk _) (effM_eq (Has.cons rfl Has.nil)).symm)⟩ ?_
   rintro ⟨i, j, s⟩ _ ⟨⟨hij, hjl, hsl, hf, hd⟩, m0, rfl⟩
   refine Wp.seqI ?_
   refine Wp.seqI ?_
   refine Wp.regI I0.mono ?_
   refine GL.move I0.mono (by conv => lhs; whnf) ?_
   refine GL.move I0.mono (by conv => lhs; whnf) ?_
   refine GL.lenO I0.mono rfl rfl rfl rfl ?_
   refine GL.bin I0.mono rfl ?_
   refine GL.doneF ?_
   refine goOn ?_
   refine Wp.condI rfl (fun h19 => ?_) (fun h19 => ?_)
   ·replace h19 := of_decide_eq_true h19
    have hg := drop_getD_eq hd (by omega)
    have hmem : s.getD j default ∈ l := by rw [hg]; exact getD_mem (by omega)
    refine Wp.skipI ?_
    refine goOn ?_
    refine Wp.seqI ?_
    refine Wp.blockI ?_
    refine Wp.seqI ?_
    refine Wp.regI I0.mono ?_
    refine GL.move I0.mono (by conv => lhs; whnf) ?_
    refine GL.move I0.mono (by conv => lhs; whnf) ?_
    refine GL.indexAddr I0.mono (sz := 3) rfl rfl rfl rfl rfl rfl rfl rfl (by omega) (by omega) (by (conv => lhs; simp only [Nat.zero_add, Int.toNat_natCast])) ?_
    refine GL.loadW I0.mono (n := 3) rfl rfl rfl rfl (by simp) (by exact em_get (by omega)) rfl rfl ?_
    refine GL.alloc I0.mono (cs := [LV.int .i64 0, LV.nils, LV.nils]) rfl rfl ?_
    intro g7
    refine GL.storeW I0.mono (n := 3) rfl rfl rfl rfl rfl rfl rfl (by conv => lhs; whnf) rfl rfl rfl ?_
    refine GL.doneF ?_
    refine goOn ?_
    refine Wp.seqI ?_
    refine Wp.regI I0.mono ?_
    refine GL.move I0.mono (by conv => lhs; whnf) ?_
    refine GL.loadW I0.mono (n := 3) rfl rfl rfl rfl (by simp) (by rfl) rfl rfl ?_
    refine GL.call0 I0.mono rfl (Frz.aggc (Frz.pures rfl) (Frz.pures hcaps)) (hp _ hmem) rfl rfl (fun _ => rfl) ?_
    refine GL.un I0.mono rfl ?_
    refine GL.doneF ?_
    refine goOn ?_
    refine Wp.condI rfl (fun h29 => ?_) (fun h29 => ?_)
    ·skip
     refine Wp.seqI ?_
     refine Wp.regI I0.mono ?_
     refine GL.move I0.mono (by conv => lhs; whnf) ?_
     refine GL.move I0.mono (by conv => lhs; whnf) ?_
     refine GL.loadW I0.mono (n := 3) rfl rfl rfl rfl (by simp) (by rfl) rfl rfl ?_
     refine GL.indexAddr I0.mono (sz := 3) rfl rfl rfl rfl rfl rfl rfl rfl (by omega) (by omega) (by (conv => lhs; simp only [Nat.zero_add, Int.toNat_natCast])) ?_
     refine GL.storeS I0.mono (n := 3) (es' := em kt (s.set i (s.getD j default))) rfl rfl rfl rfl rfl rfl (em_get (by omega)) rfl rfl rfl rfl (Nat.le_of_ble_eq_true rfl) rfl (em_set kt _ _ _) ?_
     refine GL.doneF ?_
     refine goOn ?_
     refine Wp.regI I0.mono ?_
     refine GL.move I0.mono (by conv => lhs; whnf) ?_
     refine GL.addR I0.mono rfl rfl (by omega) ?_
     refine GL.assign I0.mono (by conv => lhs; whnf) ?_
     refine GL.doneF ?_
     refine blockX.normal ?_
     refine goOn ?_
     refine Wp.regI I0.mono ?_
     refine GL.move I0.mono (by conv => lhs; whnf) ?_
     refine GL.addR I0.mono rfl rfl (by omega) ?_
     refine GL.assign I0.mono (by conv => lhs; whnf) ?_
     refine GL.doneF ?_
     first
     | refine ⟨⟨i, j + 1, s⟩, (by dsimp only; omega), _, (LessS.weak (LessS.upd (LessS.upd (LessS.upd (LessS.upd (LessS.nil _) rfl) rfl) rfl) rfl) _), ⟨by omega, by omega, hsl, del_skip hf (by omega) (by rw [← hg]; simpa using h29), drop_tail_eq hd⟩, _, (congrArg (St.mk _) (effM_eq (Has.cons rfl Has.nil)).symm)⟩
     | refine ⟨⟨i + 1, j + 1, s.set i (s.getD j default)⟩, (by dsimp only; omega), _, (LessS.weak (LessS.upd (LessS.upd (LessS.upd (LessS.upd (LessS.nil _) rfl) rfl) rfl) rfl) _), ⟨by omega, by omega, by rw [List.length_set, hsl], by rw [hg]; exact del_keep hf (by omega) (by omega) (by rw [← hg]; simpa using h29), set_drop (by omega) (drop_tail_eq hd)⟩, _, (congrArg (St.mk _) (effM_eq (Has.cons rfl Has.nil)).symm)⟩
    ·skip
     refine Wp.skipI ?_
     refine blockX.normal ?_
     refine goOn ?_
     refine Wp.regI I0.mono ?_
     refine GL.move I0.mono (by conv => lhs; whnf) ?_
     refine GL.addR I0.mono rfl rfl (by omega) ?_
     refine GL.assign I0.mono (by conv => lhs; whnf) ?_
     refine GL.doneF ?_
     first
     | refine ⟨⟨i, j + 1, s⟩, (by dsimp only; omega), _, (LessS.weak (LessS.upd (LessS.upd (LessS.upd (LessS.upd (LessS.nil _) rfl) rfl) rfl) rfl) _), ⟨by omega, by omega, hsl, del_skip hf (by omega) (by rw [← hg]; simpa using h29), drop_tail_eq hd⟩, _, (congrArg (St.mk _) (effM_eq (Has.cons rfl Has.nil)).symm)⟩
     | refine ⟨⟨i + 1, j + 1, s.set i (s.getD j default)⟩, (by dsimp only; omega), _, (LessS.weak (LessS.upd (LessS.upd (LessS.upd (LessS.upd (LessS.nil _) rfl) rfl) rfl) rfl) _), ⟨by omega, by omega, by rw [List.length_set, hsl], by rw [hg]; exact del_keep hf (by omega) (by omega) (by rw [← hg]; simpa using h29), set_drop (by omega) (drop_tail_eq hd)⟩, _, (congrArg (St.mk _) (effM_eq (Has.cons rfl Has.nil)).symm)⟩
   ·replace h19 := of_decide_eq_false h19
    refine Wp.exitI ?_
    refine thenX.exit ?_
    refine thenX.exit ?_
    refine blockX.out ?_
    refine goOn ?_
    refine Wp.seqI ?_
    refine Wp.regI I0.mono ?_
    refine GL.move I0.mono (by conv => lhs; whnf) ?_
    refine GL.move I0.mono (by conv => lhs; whnf) ?_
    refine GL.sliceFromO I0.mono (sz := 3) (j := i) (len' := l.length - i) rfl rfl rfl rfl rfl rfl rfl rfl (by omega) (by omega) (by rw [em_len]; omega) (by simp) (by simp) ?_
    refine GL.clear I0.mono (z := [.int .i64 0, .nils, .nils]) rfl rfl (by decide) rfl rfl rfl rfl rfl rfl rfl (by rw [em_len]; omega) rfl ?_
    refine GL.doneF ?_
    refine goOn ?_
    refine Wp.seqI ?_
    refine Wp.regI I0.mono ?_
    refine GL.move I0.mono (by conv => lhs; whnf) ?_
    refine GL.move I0.mono (by conv => lhs; whnf) ?_
    refine GL.sliceToO I0.mono (sz := 3) (j := i) rfl rfl rfl rfl rfl rfl rfl rfl (by omega) (by omega) (by simp [em_len]; omega) (by simp) ?_
    refine GL.assign I0.mono (by conv => lhs; whnf) ?_
    refine GL.doneF ?_
    refine goWeak (Weak.cutSl (j := 4) (b := 500000000) (i := i) rfl rfl rfl rfl rfl (by simp [em_len]; omega)) ?_
    refine Wp.retI ?_
    refine RetJX.ret ?_
    refine ⟨_, _, _, _, .cons (.tmp rfl) .nil, .slo rfl rfl rfl rfl (by rw [List.length_take]; simp [em_len]; omega), by simp, by simp, ?_⟩
    show LV.slo 3 (List.drop 0 (List.take i _)) = _
    rw [List.drop_zero, cut_eq _ _ _ _ _ (by omega), hf, show j = l.length by omega, List.take_length]

theorem delT (l : List Turn) (hl : l.length ≤ 4294967296) (A : FuncId) (caps : List LV) (hcaps : caps.all pureL = true) (p : Turn → Bool) (hp : ∀ t ∈ l, CallsV Try.prog A ((.agg (kt t)) :: caps) (.bool (p t))) : CallsM Try.prog 60 [.slo 3 (em kt l), .fn A caps] none fun res q => res = .slo 3 (em kt (l.filter fun x => !p x)) := by
  have hi := indexT_ok l (by omega) A caps hcaps p hp
  rcases idxP_spec p l 0 with ⟨e1, e2⟩ | ⟨j, e1, e2, e3, e4⟩
  · rw [e1] at hi
    exact delT0 l hl A caps hcaps p hp e2 hi
  · rw [e2, Int.zero_add] at hi
    exact delT1 l hl A caps hcaps p hp j e1 e3 e4 hi

set_option maxRecDepth 100000 in
set_option maxHeartbeats 4000000 in
theorem delH0 (l : List Hold) (hl : l.length ≤ 4294967296) (A : FuncId) (caps : List LV) (hcaps : caps.all pureL = true) (p : Hold → Bool) (hp : ∀ t ∈ l, CallsV Try.prog A ((.agg (kh t)) :: caps) (.bool (p t))) (hall : ∀ x ∈ l, p x = false) (hix : CallsV Try.prog 145 [.sl (em kh l), .fn A caps] (.int .i64 (-1))) : CallsM Try.prog 107 [.slo 3 (em kh l), .fn A caps] none fun res q => res = .slo 3 (em kh (l.filter fun x => !p x)) := by
  refine CallsM.intro (ls := [.own 500000000 0 0 l.length none, .fn A caps]) (e := [(500000000, ⟨0, false, .slc, 3, em kh l⟩)]) (ju := none) (I0.sound _) mix Try.func107 rfl rfl (by simp [Try.f107]) (by kernel_rfl) (nb := 0) rfl (by simp [impAs, impT, impV, impC, genAt, em_len]) (fun k hk => by cases hk) (fun _ => rfl) ?_
  unfold Try.f107
  refine Wp.seqI ?_
  refine Wp.regI I0.mono ?_
  refine GL.assign I0.mono (by conv => lhs; whnf) ?_
  refine GL.doneF ?_
  refine goOn ?_
  refine Wp.seqI ?_
  refine Wp.regI I0.mono ?_
  refine GL.move I0.mono (by conv => lhs; whnf) ?_
  refine GL.move I0.mono (by conv => lhs; whnf) ?_
  refine GL.callFl I0.mono rfl (Frz.aggc (by exact Frz.whole rfl rfl rfl rfl (by exact em_len _ _)) (Frz.aggc (Frz.fn (Frz.pures hcaps)) Frz.aggn)) hix (FlatI.sca rfl) rfl rfl ?_
  refine GL.assign I0.mono (by conv => lhs; whnf) ?_
  refine GL.doneF ?_
  refine goOn ?_
  refine Wp.seqI ?_
  refine Wp.seqI ?_
  refine Wp.regI I0.mono ?_
  refine GL.move I0.mono (by conv => lhs; whnf) ?_
  refine GL.bin I0.mono (v := .bool true) (by kernel_rfl) ?_
  refine GL.doneF ?_
  refine goOn ?_
  refine Wp.condT rfl ?_
  refine Wp.seqI ?_
  refine Wp.regI I0.mono ?_
  refine GL.move I0.mono (by conv => lhs; whnf) ?_
  refine GL.assign I0.mono (by conv => lhs; whnf) ?_
  refine GL.doneF ?_
  refine goOn ?_
  refine Wp.retI ?_
  refine thenX.ret ?_
  refine RetJX.ret ?_
  refine ⟨_, _, _, _, .cons (.tmp rfl) .nil, .slo rfl rfl rfl rfl (by rw [em_len]; simp), by simp, by simp, ?_⟩
  show LV.slo 3 (em kh l) = _
  rw [filter_prefix hall]

set_option maxRecDepth 100000 in
set_option maxHeartbeats 4000000 in
theorem delH1 (l : List Hold) (hl : l.length ≤ 4294967296) (A : FuncId) (caps : List LV) (hcaps : caps.all pureL = true) (p : Hold → Bool) (hp : ∀ t ∈ l, CallsV Try.prog A ((.agg (kh t)) :: caps) (.bool (p t))) (j0 : Nat) (hj0 : j0 < l.length) (hpj : p (l.getD j0 default) = true) (hbe : ∀ x ∈ l.take j0, p x = false) (hix : CallsV Try.prog 145 [.sl (em kh l), .fn A caps] (.int .i64 ((j0 : Int)))) : CallsM Try.prog 107 [.slo 3 (em kh l), .fn A caps] none fun res q => res = .slo 3 (em kh (l.filter fun x => !p x)) := by
  refine CallsM.intro (ls := [.own 500000000 0 0 l.length none, .fn A caps]) (e := [(500000000, ⟨0, false, .slc, 3, em kh l⟩)]) (ju := none) (I0.sound _) mix Try.func107 rfl rfl (by simp [Try.f107]) (by kernel_rfl) (nb := 0) rfl (by simp [impAs, impT, impV, impC, genAt, em_len]) (fun k hk => by cases hk) (fun _ => rfl) ?_
  unfold Try.f107
  refine Wp.seqI ?_
  refine Wp.regI I0.mono ?_
  refine GL.assign I0.mono (by conv => lhs; whnf) ?_
  refine GL.doneF ?_
  refine goOn ?_
  refine Wp.seqI ?_
  refine Wp.regI I0.mono ?_
  refine GL.move I0.mono (by conv => lhs; whnf) ?_
  refine GL.move I0.mono (by conv => lhs; whnf) ?_
  refine GL.callFl I0.mono rfl (Frz.aggc (by exact Frz.whole rfl rfl rfl rfl (by exact em_len _ _)) (Frz.aggc (Frz.fn (Frz.pures hcaps)) Frz.aggn)) hix (FlatI.sca rfl) rfl rfl ?_
  refine GL.assign I0.mono (by conv => lhs; whnf) ?_
  refine GL.doneF ?_
  refine goOn ?_
  refine Wp.seqI ?_
  refine Wp.seqI ?_
  refine Wp.regI I0.mono ?_
  refine GL.move I0.mono (by conv => lhs; whnf) ?_
  refine GL.bin I0.mono rfl ?_
  refine GL.doneF ?_
  refine goOn ?_
  refine Wp.condI rfl (fun h12 => ?_) (fun h12 => ?_)
  ·replace h12 := of_decide_eq_true h12
   exact absurd (show (j0 : Int) = -1 by simpa using h12) (by omega)
  ·replace h12 := of_decide_eq_false h12
   refine Wp.skipI ?_
   refine goOn ?_
   refine Wp.seqI ?_
   refine Wp.seqI ?_
   refine Wp.regI I0.mono ?_
   refine GL.move I0.mono (by conv => lhs; whnf) ?_
   refine GL.addR I0.mono rfl rfl (by omega) ?_
   refine GL.assign I0.mono (by conv => lhs; whnf) ?_
   refine GL.doneF ?_
   refine goOn ?_
   refine Wp.blockI ?_
   refine Wp.loopI I0.mono (α := Nat × Nat × List Hold) (fun ⟨i, j, s⟩ st => (i < j ∧ j ≤ l.length ∧ s.length = l.length ∧ s.take i = (l.take j).filter (fun x => !p x) ∧ s.drop j = l.drop j) ∧ ∃ m0, st = ⟨(updS (updS (updS (updS (fun _ => LV.undef) 0 (.own 500000000 0 0 l.length none)) 1 (.fn A caps)) 5 (.int .i64 (i : Int))) 6 (.int .i64 (j : Int))), effM m0 [(500000000, ⟨0, false, .slc, 3, em kh s⟩)]⟩) (fun ⟨i, j, s⟩ => l.length - j) ⟨j0, j0 + 1, l⟩ ⟨_, (LessS.weak (LessS.upd (LessS.upd (LessS.upd (LessS.upd (LessS.nil _) rfl) rfl) rfl) rfl) _), ⟨by omega, by omega, rfl, del_skip (filter_prefix hbe).symm hj0 hpj, rfl⟩, _, (congrArg (St.mk _) (effM_eq (Has.cons rfl Has.nil)).symm)⟩ ?_
   rintro ⟨i, j, s⟩ _ ⟨⟨hij, hjl, hsl, hf, hd⟩, m0, rfl⟩
   refine Wp.seqI ?_
   refine Wp.seqI ?_
   refine Wp.regI I0.mono ?_
   refine GL.move I0.mono (by conv => lhs; whnf) ?_
   refine GL.move I0.mono (by conv => lhs; whnf) ?_
   refine GL.lenO I0.mono rfl rfl rfl rfl ?_
   refine GL.bin I0.mono rfl ?_
   refine GL.doneF ?_
   refine goOn ?_
   refine Wp.condI rfl (fun h19 => ?_) (fun h19 => ?_)
   ·replace h19 := of_decide_eq_true h19
    have hg := drop_getD_eq hd (by omega)
    have hmem : s.getD j default ∈ l := by rw [hg]; exact getD_mem (by omega)
    refine Wp.skipI ?_
    refine goOn ?_
    refine Wp.seqI ?_
    refine Wp.blockI ?_
    refine Wp.seqI ?_
    refine Wp.regI I0.mono ?_
    refine GL.move I0.mono (by conv => lhs; whnf) ?_
    refine GL.move I0.mono (by conv => lhs; whnf) ?_
    refine GL.indexAddr I0.mono (sz := 3) rfl rfl rfl rfl rfl rfl rfl rfl (by omega) (by omega) (by (conv => lhs; simp only [Nat.zero_add, Int.toNat_natCast])) ?_
    refine GL.loadW I0.mono (n := 3) rfl rfl rfl rfl (by simp) (by exact em_get (by omega)) rfl rfl ?_
    refine GL.alloc I0.mono (cs := [LV.int .i64 0, LV.int .i64 0, LV.int .i64 0]) rfl rfl ?_
    intro g7
    refine GL.storeW I0.mono (n := 3) rfl rfl rfl rfl rfl rfl rfl (by conv => lhs; whnf) rfl rfl rfl ?_
    refine GL.doneF ?_
    refine goOn ?_
    refine Wp.seqI ?_
    refine Wp.regI I0.mono ?_
    refine GL.move I0.mono (by conv => lhs; whnf) ?_
    refine GL.loadW I0.mono (n := 3) rfl rfl rfl rfl (by simp) (by rfl) rfl rfl ?_
    refine GL.call0 I0.mono rfl (Frz.aggc (Frz.pures rfl) (Frz.pures hcaps)) (hp _ hmem) rfl rfl (fun _ => rfl) ?_
    refine GL.un I0.mono rfl ?_
    refine GL.doneF ?_
    refine goOn ?_
    refine Wp.condI rfl (fun h29 => ?_) (fun h29 => ?_)
    ·skip
     refine Wp.seqI ?_
     refine Wp.regI I0.mono ?_
     refine GL.move I0.mono (by conv => lhs; whnf) ?_
     refine GL.move I0.mono (by conv => lhs; whnf) ?_
     refine GL.loadW I0.mono (n := 3) rfl rfl rfl rfl (by simp) (by rfl) rfl rfl ?_
     refine GL.indexAddr I0.mono (sz := 3) rfl rfl rfl rfl rfl rfl rfl rfl (by omega) (by omega) (by (conv => lhs; simp only [Nat.zero_add, Int.toNat_natCast])) ?_
     refine GL.storeS I0.mono (n := 3) (es' := em kh (s.set i (s.getD j default))) rfl rfl rfl rfl rfl rfl (em_get (by omega)) rfl rfl rfl rfl (Nat.le_of_ble_eq_true rfl) rfl (em_set kh _ _ _) ?_
     refine GL.doneF ?_
     refine goOn ?_
     refine Wp.regI I0.mono ?_
     refine GL.move I0.mono (by conv => lhs; whnf) ?_
     refine GL.addR I0.mono rfl rfl (by omega) ?_
     refine GL.assign I0.mono (by conv => lhs; whnf) ?_
     refine GL.doneF ?_
     refine blockX.normal ?_
     refine goOn ?_
     refine Wp.regI I0.mono ?_
     refine GL.move I0.mono (by conv => lhs; whnf) ?_
     refine GL.addR I0.mono rfl rfl (by omega) ?_
     refine GL.assign I0.mono (by conv => lhs; whnf) ?_
     refine GL.doneF ?_
     first
     | refine ⟨⟨i, j + 1, s⟩, (by dsimp only; omega), _, (LessS.weak (LessS.upd (LessS.upd (LessS.upd (LessS.upd (LessS.nil _) rfl) rfl) rfl) rfl) _), ⟨by omega, by omega, hsl, del_skip hf (by omega) (by rw [← hg]; simpa using h29), drop_tail_eq hd⟩, _, (congrArg (St.mk _) (effM_eq (Has.cons rfl Has.nil)).symm)⟩
     | refine ⟨⟨i + 1, j + 1, s.set i (s.getD j default)⟩, (by dsimp only; omega), _, (LessS.weak (LessS.upd (LessS.upd (LessS.upd (LessS.upd (LessS.nil _) rfl) rfl) rfl) rfl) _), ⟨by omega, by omega, by rw [List.length_set, hsl], by rw [hg]; exact del_keep hf (by omega) (by omega) (by rw [← hg]; simpa using h29), set_drop (by omega) (drop_tail_eq hd)⟩, _, (congrArg (St.mk _) (effM_eq (Has.cons rfl Has.nil)).symm)⟩
    ·skip
     refine Wp.skipI ?_
     refine blockX.normal ?_
     refine goOn ?_
     refine Wp.regI I0.mono ?_
     refine GL.move I0.mono (by conv => lhs; whnf) ?_
     refine GL.addR I0.mono rfl rfl (by omega) ?_
     refine GL.assign I0.mono (by conv => lhs; whnf) ?_
     refine GL.doneF ?_
     first
     | refine ⟨⟨i, j + 1, s⟩, (by dsimp only; omega), _, (LessS.weak (LessS.upd (LessS.upd (LessS.upd (LessS.upd (LessS.nil _) rfl) rfl) rfl) rfl) _), ⟨by omega, by omega, hsl, del_skip hf (by omega) (by rw [← hg]; simpa using h29), drop_tail_eq hd⟩, _, (congrArg (St.mk _) (effM_eq (Has.cons rfl Has.nil)).symm)⟩
     | refine ⟨⟨i + 1, j + 1, s.set i (s.getD j default)⟩, (by dsimp only; omega), _, (LessS.weak (LessS.upd (LessS.upd (LessS.upd (LessS.upd (LessS.nil _) rfl) rfl) rfl) rfl) _), ⟨by omega, by omega, by rw [List.length_set, hsl], by rw [hg]; exact del_keep hf (by omega) (by omega) (by rw [← hg]; simpa using h29), set_drop (by omega) (drop_tail_eq hd)⟩, _, (congrArg (St.mk _) (effM_eq (Has.cons rfl Has.nil)).symm)⟩
   ·replace h19 := of_decide_eq_false h19
    refine Wp.exitI ?_
    refine thenX.exit ?_
    refine thenX.exit ?_
    refine blockX.out ?_
    refine goOn ?_
    refine Wp.seqI ?_
    refine Wp.regI I0.mono ?_
    refine GL.move I0.mono (by conv => lhs; whnf) ?_
    refine GL.move I0.mono (by conv => lhs; whnf) ?_
    refine GL.sliceFromO I0.mono (sz := 3) (j := i) (len' := l.length - i) rfl rfl rfl rfl rfl rfl rfl rfl (by omega) (by omega) (by rw [em_len]; omega) (by simp) (by simp) ?_
    refine GL.clear I0.mono (z := [.int .i64 0, .int .i64 0, .int .i64 0]) rfl rfl (by decide) rfl rfl rfl rfl rfl rfl rfl (by rw [em_len]; omega) rfl ?_
    refine GL.doneF ?_
    refine goOn ?_
    refine Wp.seqI ?_
    refine Wp.regI I0.mono ?_
    refine GL.move I0.mono (by conv => lhs; whnf) ?_
    refine GL.move I0.mono (by conv => lhs; whnf) ?_
    refine GL.sliceToO I0.mono (sz := 3) (j := i) rfl rfl rfl rfl rfl rfl rfl rfl (by omega) (by omega) (by simp [em_len]; omega) (by simp) ?_
    refine GL.assign I0.mono (by conv => lhs; whnf) ?_
    refine GL.doneF ?_
    refine goWeak (Weak.cutSl (j := 4) (b := 500000000) (i := i) rfl rfl rfl rfl rfl (by simp [em_len]; omega)) ?_
    refine Wp.retI ?_
    refine RetJX.ret ?_
    refine ⟨_, _, _, _, .cons (.tmp rfl) .nil, .slo rfl rfl rfl rfl (by rw [List.length_take]; simp [em_len]; omega), by simp, by simp, ?_⟩
    show LV.slo 3 (List.drop 0 (List.take i _)) = _
    rw [List.drop_zero, cut_eq _ _ _ _ _ (by omega), hf, show j = l.length by omega, List.take_length]

theorem delH (l : List Hold) (hl : l.length ≤ 4294967296) (A : FuncId) (caps : List LV) (hcaps : caps.all pureL = true) (p : Hold → Bool) (hp : ∀ t ∈ l, CallsV Try.prog A ((.agg (kh t)) :: caps) (.bool (p t))) : CallsM Try.prog 107 [.slo 3 (em kh l), .fn A caps] none fun res q => res = .slo 3 (em kh (l.filter fun x => !p x)) := by
  have hi := indexH_ok l (by omega) A caps hcaps p hp
  rcases idxP_spec p l 0 with ⟨e1, e2⟩ | ⟨j, e1, e2, e3, e4⟩
  · rw [e1] at hi
    exact delH0 l hl A caps hcaps p hp e2 hi
  · rw [e2, Int.zero_add] at hi
    exact delH1 l hl A caps hcaps p hp j e1 e3 e4 hi

set_option maxRecDepth 100000 in
set_option maxHeartbeats 4000000 in
theorem isrtT (k : Turn → Int) (x : Turn) (r0 : List Turn) (hl : (x :: r0).length < 4611686018427387904) (A : FuncId) (hA : ∀ a b, CallsV Try.prog A [.agg (kt a), .agg (kt b)] (.int .i64 (cmpI (k a) (k b)))) : CallsM Try.prog 143 [.slo 3 (em kt (x :: r0)), .int .i64 0, .int .i64 ((x :: r0).length : Int), .fn A []] (some 0) fun res q => res = .tup [] ∧ q = .slo 3 (em kt (isort k [] (x :: r0))) := by
  refine CallsM.intro (ls := [.own 500000000 0 0 (x :: r0).length none, .int .i64 0, .int .i64 ((x :: r0).length : Int), .fn A []]) (e := [(500000000, ⟨0, false, .slc, 3, em kt (x :: r0)⟩)]) (ju := some (.own 500000000 0 0 (x :: r0).length none)) (I0.sound _) mix Try.func143 rfl rfl (by simp [Try.f143]) (by kernel_rfl) (nb := 0) rfl (by simp [impAs, impT, impV, impC, genAt, em_len]) (fun k hk => by cases hk; exact ⟨_, rfl, rfl⟩) (fun h => by cases h) ?_
  unfold Try.f143
  refine Wp.seqI ?_
  refine Wp.regI I0.mono ?_
  refine GL.move I0.mono (by conv => lhs; whnf) ?_
  refine GL.addR I0.mono rfl rfl (by omega) ?_
  refine GL.assign I0.mono (by conv => lhs; whnf) ?_
  refine GL.doneF ?_
  refine goOn ?_
  refine Wp.blockI ?_
  refine Wp.loopI I0.mono (α := Nat × List Turn × List Turn) (fun ⟨i, p, r⟩ st => (i = p.length ∧ p.length + r.length = (x :: r0).length ∧ isort k p r = isort k [] (x :: r0)) ∧ ∃ m0, st = ⟨(updS (updS (updS (updS (updS (fun _ => LV.undef) 0 (.own 500000000 0 0 (x :: r0).length none)) 1 (.int .i64 0)) 2 (.int .i64 ((x :: r0).length : Int))) 3 (.fn A [])) 8 (.int .i64 (i : Int))), effM m0 [(500000000, ⟨0, false, .slc, 3, em kt (p ++ r)⟩)]⟩) (fun ⟨i, p, r⟩ => r.length) ⟨1, [x], r0⟩ ⟨_, (LessS.weak (LessS.upd (LessS.upd (LessS.upd (LessS.upd (LessS.upd (LessS.nil _) rfl) rfl) rfl) rfl) rfl) _), ⟨rfl, by show 1 + r0.length = r0.length + 1; omega, rfl⟩, _, (congrArg (St.mk _) (effM_eq (Has.cons rfl Has.nil)).symm)⟩ ?_
  rintro ⟨i, p, r⟩ _ ⟨⟨hi, hpr, hI⟩, m0, rfl⟩
  refine Wp.seqI ?_
  refine Wp.seqI ?_
  refine Wp.regI I0.mono ?_
  refine GL.move I0.mono (by conv => lhs; whnf) ?_
  refine GL.move I0.mono (by conv => lhs; whnf) ?_
  refine GL.bin I0.mono rfl ?_
  refine GL.doneF ?_
  refine goOn ?_
  refine Wp.condI rfl (fun h14 => ?_) (fun h14 => ?_)
  ·replace h14 := of_decide_eq_true h14
   obtain ⟨y, r', rfl⟩ : ∃ y r', r = y :: r' := by
         cases r with
         | nil => rw [List.length_nil] at hpr; omega
         | cons a b => exact ⟨a, b, rfl⟩
   rw [List.length_cons] at hpr
   rw [← mid_full p y r']
   refine Wp.skipI ?_
   refine goOn ?_
   refine Wp.seqI ?_
   refine Wp.blockI ?_
   refine Wp.seqI ?_
   refine Wp.regI I0.mono ?_
   refine GL.move I0.mono (by conv => lhs; whnf) ?_
   refine GL.assign I0.mono (by conv => lhs; whnf) ?_
   refine GL.doneF ?_
   refine goOn ?_
   refine Wp.blockI ?_
   refine Wp.loopI I0.mono (α := Nat) (fun j st => (j ≤ p.length ∧ posI k y p p.length = posI k y p j) ∧ ∃ m0, st = ⟨(updS (updS (updS (updS (updS (updS (fun _ => LV.undef) 0 (.own 500000000 0 0 (x :: r0).length none)) 1 (.int .i64 0)) 2 (.int .i64 ((x :: r0).length : Int))) 3 (.fn A [])) 8 (.int .i64 (i : Int))) 9 (.int .i64 (j : Int))), effM m0 [(500000000, ⟨0, false, .slc, 3, em kt (mid p y r' j)⟩)]⟩) (fun j => j) p.length ⟨_, (LessS.weak (LessS.upd (LessS.upd (LessS.upd (LessS.upd (LessS.upd (LessS.upd (LessS.nil _) rfl) rfl) rfl) rfl) rfl) (by show LV.int _ _ = LV.int _ _; rw [hi])) _), ⟨Nat.le_refl _, rfl⟩, _, (congrArg (St.mk _) (effM_eq (Has.cons rfl Has.nil)).symm)⟩ ?_
   rintro j _ ⟨⟨hj, hP⟩, m0, rfl⟩
   refine Wp.seqI ?_
   refine Wp.seqI ?_
   refine Wp.regD ?_
   refine GL.move I0.mono (by conv => lhs; whnf) ?_
   refine GL.move I0.mono (by conv => lhs; whnf) ?_
   refine GL.bin I0.mono rfl ?_
   refine GL.move I0.mono (by conv => lhs; whnf) ?_
   refine GL.splitAt 21 rfl (fun h21 => ?_) (fun h21 => ?_)
   ·rw [h21]
    replace h21 := of_decide_eq_true h21
    refine GL.guardT rfl ?_
    refine GL.move I0.mono (by conv => lhs; whnf) ?_
    refine GL.guardT rfl ?_
    refine GL.move I0.mono (by conv => lhs; whnf) ?_
    refine GL.guardT rfl ?_
    refine GL.move I0.mono (by conv => lhs; whnf) ?_
    refine GL.guardT rfl ?_
    refine GL.indexAddr I0.mono (sz := 3) (j := j) rfl rfl rfl rfl rfl rfl rfl rfl (by omega) (by omega) (by omega) ?_
    refine GL.guardT rfl ?_
    refine GL.loadW I0.mono (n := 3) rfl rfl rfl rfl (by simp) (by exact mid_at rfl (by omega)) rfl rfl ?_
    refine GL.guardT rfl ?_
    refine GL.move I0.mono (by conv => lhs; whnf) ?_
    refine GL.guardT rfl ?_
    refine GL.move I0.mono (by conv => lhs; whnf) ?_
    refine GL.guardT rfl ?_
    refine GL.subR I0.mono rfl rfl (by omega) ?_
    refine GL.guardT rfl ?_
    refine GL.indexAddr I0.mono (sz := 3) (j := j - 1) rfl rfl rfl rfl rfl rfl rfl rfl (by omega) (by omega) (by omega) ?_
    refine GL.guardT rfl ?_
    refine GL.loadW I0.mono (n := 3) rfl rfl rfl rfl (by simp) (by exact mid_pr (by omega) (by omega)) rfl rfl ?_
    refine GL.guardT rfl ?_
    refine GL.call0 I0.mono rfl (Frz.aggc (by exact Frz.pures rfl) (Frz.aggc (by exact Frz.pures rfl) (Frz.aggn))) (hA _ _) rfl rfl (fun _ => rfl) ?_
    refine GL.guardT rfl ?_
    refine GL.bin I0.mono rfl ?_
    refine GL.pick I0.mono rfl (by conv => lhs; whnf) ?_
    refine GL.doneT (by kernel_rfl) ?_
    refine goOn ?_
    refine Wp.condI rfl (fun h34 => ?_) (fun h34 => ?_)
    ·replace h34 := of_decide_eq_true h34
     have hgo := posI_go (k := k) (x := y) (p := p) (j := j) (by omega) (cmp_lt.1 h34)
     refine Wp.skipI ?_
     refine goOn ?_
     refine Wp.seqI ?_
     refine Wp.blockI ?_
     refine Wp.regD ?_
     refine GL.move I0.mono (by conv => lhs; whnf) ?_
     refine GL.move I0.mono (by conv => lhs; whnf) ?_
     refine GL.move I0.mono (by conv => lhs; whnf) ?_
     refine GL.move I0.mono (by conv => lhs; whnf) ?_
     refine GL.subR I0.mono rfl rfl (by omega) ?_
     refine GL.move I0.mono (by conv => lhs; whnf) ?_
     refine GL.move I0.mono (by conv => lhs; whnf) ?_
     refine GL.subR I0.mono rfl rfl (by omega) ?_
     refine GL.indexAddr I0.mono (sz := 3) (j := j - 1) rfl rfl rfl rfl rfl rfl rfl rfl (by omega) (by omega) (by omega) ?_
     refine GL.loadW I0.mono (n := 3) rfl rfl rfl rfl (by simp) (by exact mid_pr (by omega) (by omega)) rfl rfl ?_
     refine GL.move I0.mono (by conv => lhs; whnf) ?_
     refine GL.move I0.mono (by conv => lhs; whnf) ?_
     refine GL.indexAddr I0.mono (sz := 3) (j := j) rfl rfl rfl rfl rfl rfl rfl rfl (by omega) (by omega) (by omega) ?_
     refine GL.loadW I0.mono (n := 3) rfl rfl rfl rfl (by simp) (by exact mid_at rfl (by omega)) rfl rfl ?_
     refine GL.indexAddr I0.mono (sz := 3) (j := j) rfl rfl rfl rfl rfl rfl rfl rfl (by omega) (by omega) (by omega) ?_
     refine GL.storeS I0.mono (n := 3) (es' := (em kt (mid p y r' j)).set j (kt (p.getD (j - 1) default))) rfl rfl rfl rfl rfl rfl (mid_at rfl (by omega)) rfl rfl rfl rfl (Nat.le_of_ble_eq_true rfl) rfl rfl ?_
     refine GL.indexAddr I0.mono (sz := 3) (j := j - 1) rfl rfl rfl rfl rfl rfl rfl rfl (by omega) (by omega) (by omega) ?_
     refine GL.storeS I0.mono (n := 3) (es' := em kt (mid p y r' (j - 1))) rfl rfl rfl rfl rfl rfl (by show ((em kt (mid p y r' j)).set j (kt (p.getD (j - 1) default)))[j - 1]? = _; rw [List.getElem?_set_ne (by omega)]; exact mid_pr (by omega) (by omega)) rfl rfl rfl rfl (Nat.le_of_ble_eq_true rfl) rfl (mid_swap (p := p) (x := y) (r := r') (i := j - 1) (j := j) (by omega) (by omega)) ?_
     refine GL.doneT (by kernel_rfl) ?_
     refine blockX.normal ?_
     refine goOn ?_
     refine Wp.regI I0.mono ?_
     refine GL.move I0.mono (by conv => lhs; whnf) ?_
     refine GL.subR I0.mono rfl rfl (by omega) ?_
     refine GL.assign I0.mono (by conv => lhs; whnf) ?_
     refine GL.doneF ?_
     refine ⟨j - 1, (by dsimp only; omega), _, (LessS.weak (LessS.upd (LessS.upd (LessS.upd (LessS.upd (LessS.upd (LessS.upd (LessS.nil _) rfl) rfl) rfl) rfl) rfl) (by show LV.int _ _ = LV.int _ _; congr 1; omega)) _), ⟨by omega, by rw [hP, hgo]⟩, _, (congrArg (St.mk _) (effM_eq (Has.cons rfl Has.nil)).symm)⟩
    ·replace h34 := of_decide_eq_false h34
     have hq := posI_stop (k := k) (x := y) (p := p) (j := j) (by omega) (fun hc => h34 (cmp_lt.2 hc))
     refine Wp.exitI ?_
     refine thenX.exit ?_
     refine thenX.exit ?_
     refine blockX.out ?_
     refine blockX.normal ?_
     refine goOn ?_
     refine Wp.regI I0.mono ?_
     refine GL.move I0.mono (by conv => lhs; whnf) ?_
     refine GL.addR I0.mono rfl rfl (by omega) ?_
     refine GL.assign I0.mono (by conv => lhs; whnf) ?_
     refine GL.doneF ?_
     rw [show mid p y r' j = insI k p y ++ r' from by rw [← mid_pos k, hP, hq]]
     have hil := insI_len k p y
     refine ⟨⟨i + 1, insI k p y, r'⟩, (by simp), _, (LessS.weak (LessS.upd (LessS.upd (LessS.upd (LessS.upd (LessS.upd (LessS.nil _) rfl) rfl) rfl) rfl) rfl) _), ⟨by omega, by omega, hI⟩, _, (congrArg (St.mk _) (effM_eq (Has.cons rfl Has.nil)).symm)⟩
   ·rw [h21]
    replace h21 := of_decide_eq_false h21
    have hq := posI_zero (k := k) (x := y) (p := p) (j := j) (by omega)
    refine GL.guardF rfl ?_
    refine GL.guardF rfl ?_
    refine GL.guardF rfl ?_
    refine GL.guardF rfl ?_
    refine GL.guardF rfl ?_
    refine GL.guardF rfl ?_
    refine GL.guardF rfl ?_
    refine GL.guardF rfl ?_
    refine GL.guardF rfl ?_
    refine GL.guardF rfl ?_
    refine GL.guardF rfl ?_
    refine GL.guardF rfl ?_
    refine GL.pick I0.mono rfl (by conv => lhs; whnf) ?_
    refine GL.doneT (by kernel_rfl) ?_
    refine goOn ?_
    refine Wp.condF rfl ?_
    refine Wp.exitI ?_
    refine thenX.exit ?_
    refine thenX.exit ?_
    refine blockX.out ?_
    refine blockX.normal ?_
    refine goOn ?_
    refine Wp.regI I0.mono ?_
    refine GL.move I0.mono (by conv => lhs; whnf) ?_
    refine GL.addR I0.mono rfl rfl (by omega) ?_
    refine GL.assign I0.mono (by conv => lhs; whnf) ?_
    refine GL.doneF ?_
    rw [show mid p y r' j = insI k p y ++ r' from by rw [← mid_pos k, hP, hq]]
    have hil := insI_len k p y
    refine ⟨⟨i + 1, insI k p y, r'⟩, (by simp), _, (LessS.weak (LessS.upd (LessS.upd (LessS.upd (LessS.upd (LessS.upd (LessS.nil _) rfl) rfl) rfl) rfl) rfl) _), ⟨by omega, by omega, hI⟩, _, (congrArg (St.mk _) (effM_eq (Has.cons rfl Has.nil)).symm)⟩
  ·replace h14 := of_decide_eq_false h14
   refine Wp.exitI ?_
   refine thenX.exit ?_
   refine thenX.exit ?_
   refine blockX.out ?_
   refine RetJX.normal ?_
   obtain rfl : r = [] := List.eq_nil_of_length_eq_zero (by omega)
   have hpl : p.length = (x :: r0).length := by rw [← hpr]; simp
   refine ⟨_, _, _, _, _, .nil, .aggc (.tup .aggn) (.aggc (.slo (b := 500000000) rfl rfl rfl rfl (by rw [em_len, List.append_nil, hpl]; omega)) .aggn), by simp, by simp, rfl, ?_⟩
   show LV.slo 3 (List.drop 0 (em kt (p ++ []))) = _
   rw [List.drop_zero, List.append_nil, ← hI]
   rfl

set_option maxRecDepth 100000 in
set_option maxHeartbeats 4000000 in
theorem isrtTN (A : FuncId) : CallsV Try.prog 143 [.sl (em kt []), .int .i64 0, .int .i64 0, .fn A []] (.tup []) := by
  refine CallsR.intro (I0.sound _) mix Try.func143 rfl rfl (by simp [Try.f143]) (by kernel_rfl) (nb := 0) ?_
  unfold Try.f143
  refine Wp.seqI ?_
  refine Wp.regI I0.mono ?_
  refine GL.move I0.mono (by conv => lhs; whnf) ?_
  refine GL.addR I0.mono rfl rfl (by omega) ?_
  refine GL.assign I0.mono (by conv => lhs; whnf) ?_
  refine GL.doneF ?_
  refine goOn ?_
  refine Wp.blockI ?_
  refine Wp.loopI I0.mono (α := Unit) (fun _ st => (True) ∧ ∃ m0, st = ⟨(updS (updS (fun _ => LV.undef) 2 (.int .i64 0)) 8 (.int .i64 1)), effM m0 []⟩) (fun _ => 0) () ⟨_, (LessS.weak (LessS.upd (LessS.upd (LessS.nil _) rfl) rfl) _), trivial, _, (congrArg (St.mk _) (effM_eq Has.nil).symm)⟩ ?_
  rintro _ _ ⟨-, m0, rfl⟩
  refine Wp.seqI ?_
  refine Wp.seqI ?_
  refine Wp.regI I0.mono ?_
  refine GL.move I0.mono (by conv => lhs; whnf) ?_
  refine GL.move I0.mono (by conv => lhs; whnf) ?_
  refine GL.bin I0.mono rfl ?_
  refine GL.doneF ?_
  refine goOn ?_
  refine Wp.condI rfl (fun h14 => ?_) (fun h14 => ?_)
  ·replace h14 := of_decide_eq_true h14
   exact absurd h14 (by decide)
  ·replace h14 := of_decide_eq_false h14
   refine Wp.exitI ?_
   refine thenX.exit ?_
   refine thenX.exit ?_
   refine blockX.out ?_
   refine RetX.normal ?_
   refine ⟨_, _, _, _, .nil, .tup .aggn, List.nodup_nil, by simp, rfl⟩

set_option maxRecDepth 100000 in
set_option maxHeartbeats 4000000 in
theorem isrtH (k : Hold → Int) (x : Hold) (r0 : List Hold) (hl : (x :: r0).length < 4611686018427387904) (A : FuncId) (hA : ∀ a b, CallsV Try.prog A [.agg (kh a), .agg (kh b)] (.int .i64 (cmpI (k a) (k b)))) : CallsM Try.prog 172 [.slo 3 (em kh (x :: r0)), .int .i64 0, .int .i64 ((x :: r0).length : Int), .fn A []] (some 0) fun res q => res = .tup [] ∧ q = .slo 3 (em kh (isort k [] (x :: r0))) := by
  refine CallsM.intro (ls := [.own 500000000 0 0 (x :: r0).length none, .int .i64 0, .int .i64 ((x :: r0).length : Int), .fn A []]) (e := [(500000000, ⟨0, false, .slc, 3, em kh (x :: r0)⟩)]) (ju := some (.own 500000000 0 0 (x :: r0).length none)) (I0.sound _) mix Try.func172 rfl rfl (by simp [Try.f172]) (by kernel_rfl) (nb := 0) rfl (by simp [impAs, impT, impV, impC, genAt, em_len]) (fun k hk => by cases hk; exact ⟨_, rfl, rfl⟩) (fun h => by cases h) ?_
  unfold Try.f172
  refine Wp.seqI ?_
  refine Wp.regI I0.mono ?_
  refine GL.move I0.mono (by conv => lhs; whnf) ?_
  refine GL.addR I0.mono rfl rfl (by omega) ?_
  refine GL.assign I0.mono (by conv => lhs; whnf) ?_
  refine GL.doneF ?_
  refine goOn ?_
  refine Wp.blockI ?_
  refine Wp.loopI I0.mono (α := Nat × List Hold × List Hold) (fun ⟨i, p, r⟩ st => (i = p.length ∧ p.length + r.length = (x :: r0).length ∧ isort k p r = isort k [] (x :: r0)) ∧ ∃ m0, st = ⟨(updS (updS (updS (updS (updS (fun _ => LV.undef) 0 (.own 500000000 0 0 (x :: r0).length none)) 1 (.int .i64 0)) 2 (.int .i64 ((x :: r0).length : Int))) 3 (.fn A [])) 8 (.int .i64 (i : Int))), effM m0 [(500000000, ⟨0, false, .slc, 3, em kh (p ++ r)⟩)]⟩) (fun ⟨i, p, r⟩ => r.length) ⟨1, [x], r0⟩ ⟨_, (LessS.weak (LessS.upd (LessS.upd (LessS.upd (LessS.upd (LessS.upd (LessS.nil _) rfl) rfl) rfl) rfl) rfl) _), ⟨rfl, by show 1 + r0.length = r0.length + 1; omega, rfl⟩, _, (congrArg (St.mk _) (effM_eq (Has.cons rfl Has.nil)).symm)⟩ ?_
  rintro ⟨i, p, r⟩ _ ⟨⟨hi, hpr, hI⟩, m0, rfl⟩
  refine Wp.seqI ?_
  refine Wp.seqI ?_
  refine Wp.regI I0.mono ?_
  refine GL.move I0.mono (by conv => lhs; whnf) ?_
  refine GL.move I0.mono (by conv => lhs; whnf) ?_
  refine GL.bin I0.mono rfl ?_
  refine GL.doneF ?_
  refine goOn ?_
  refine Wp.condI rfl (fun h14 => ?_) (fun h14 => ?_)
  ·replace h14 := of_decide_eq_true h14
   obtain ⟨y, r', rfl⟩ : ∃ y r', r = y :: r' := by
         cases r with
         | nil => rw [List.length_nil] at hpr; omega
         | cons a b => exact ⟨a, b, rfl⟩
   rw [List.length_cons] at hpr
   rw [← mid_full p y r']
   refine Wp.skipI ?_
   refine goOn ?_
   refine Wp.seqI ?_
   refine Wp.blockI ?_
   refine Wp.seqI ?_
   refine Wp.regI I0.mono ?_
   refine GL.move I0.mono (by conv => lhs; whnf) ?_
   refine GL.assign I0.mono (by conv => lhs; whnf) ?_
   refine GL.doneF ?_
   refine goOn ?_
   refine Wp.blockI ?_
   refine Wp.loopI I0.mono (α := Nat) (fun j st => (j ≤ p.length ∧ posI k y p p.length = posI k y p j) ∧ ∃ m0, st = ⟨(updS (updS (updS (updS (updS (updS (fun _ => LV.undef) 0 (.own 500000000 0 0 (x :: r0).length none)) 1 (.int .i64 0)) 2 (.int .i64 ((x :: r0).length : Int))) 3 (.fn A [])) 8 (.int .i64 (i : Int))) 9 (.int .i64 (j : Int))), effM m0 [(500000000, ⟨0, false, .slc, 3, em kh (mid p y r' j)⟩)]⟩) (fun j => j) p.length ⟨_, (LessS.weak (LessS.upd (LessS.upd (LessS.upd (LessS.upd (LessS.upd (LessS.upd (LessS.nil _) rfl) rfl) rfl) rfl) rfl) (by show LV.int _ _ = LV.int _ _; rw [hi])) _), ⟨Nat.le_refl _, rfl⟩, _, (congrArg (St.mk _) (effM_eq (Has.cons rfl Has.nil)).symm)⟩ ?_
   rintro j _ ⟨⟨hj, hP⟩, m0, rfl⟩
   refine Wp.seqI ?_
   refine Wp.seqI ?_
   refine Wp.regD ?_
   refine GL.move I0.mono (by conv => lhs; whnf) ?_
   refine GL.move I0.mono (by conv => lhs; whnf) ?_
   refine GL.bin I0.mono rfl ?_
   refine GL.move I0.mono (by conv => lhs; whnf) ?_
   refine GL.splitAt 21 rfl (fun h21 => ?_) (fun h21 => ?_)
   ·rw [h21]
    replace h21 := of_decide_eq_true h21
    refine GL.guardT rfl ?_
    refine GL.move I0.mono (by conv => lhs; whnf) ?_
    refine GL.guardT rfl ?_
    refine GL.move I0.mono (by conv => lhs; whnf) ?_
    refine GL.guardT rfl ?_
    refine GL.move I0.mono (by conv => lhs; whnf) ?_
    refine GL.guardT rfl ?_
    refine GL.indexAddr I0.mono (sz := 3) (j := j) rfl rfl rfl rfl rfl rfl rfl rfl (by omega) (by omega) (by omega) ?_
    refine GL.guardT rfl ?_
    refine GL.loadW I0.mono (n := 3) rfl rfl rfl rfl (by simp) (by exact mid_at rfl (by omega)) rfl rfl ?_
    refine GL.guardT rfl ?_
    refine GL.move I0.mono (by conv => lhs; whnf) ?_
    refine GL.guardT rfl ?_
    refine GL.move I0.mono (by conv => lhs; whnf) ?_
    refine GL.guardT rfl ?_
    refine GL.subR I0.mono rfl rfl (by omega) ?_
    refine GL.guardT rfl ?_
    refine GL.indexAddr I0.mono (sz := 3) (j := j - 1) rfl rfl rfl rfl rfl rfl rfl rfl (by omega) (by omega) (by omega) ?_
    refine GL.guardT rfl ?_
    refine GL.loadW I0.mono (n := 3) rfl rfl rfl rfl (by simp) (by exact mid_pr (by omega) (by omega)) rfl rfl ?_
    refine GL.guardT rfl ?_
    refine GL.call0 I0.mono rfl (Frz.aggc (by exact Frz.pures rfl) (Frz.aggc (by exact Frz.pures rfl) (Frz.aggn))) (hA _ _) rfl rfl (fun _ => rfl) ?_
    refine GL.guardT rfl ?_
    refine GL.bin I0.mono rfl ?_
    refine GL.pick I0.mono rfl (by conv => lhs; whnf) ?_
    refine GL.doneT (by kernel_rfl) ?_
    refine goOn ?_
    refine Wp.condI rfl (fun h34 => ?_) (fun h34 => ?_)
    ·replace h34 := of_decide_eq_true h34
     have hgo := posI_go (k := k) (x := y) (p := p) (j := j) (by omega) (cmp_lt.1 h34)
     refine Wp.skipI ?_
     refine goOn ?_
     refine Wp.seqI ?_
     refine Wp.blockI ?_
     refine Wp.regD ?_
     refine GL.move I0.mono (by conv => lhs; whnf) ?_
     refine GL.move I0.mono (by conv => lhs; whnf) ?_
     refine GL.move I0.mono (by conv => lhs; whnf) ?_
     refine GL.move I0.mono (by conv => lhs; whnf) ?_
     refine GL.subR I0.mono rfl rfl (by omega) ?_
     refine GL.move I0.mono (by conv => lhs; whnf) ?_
     refine GL.move I0.mono (by conv => lhs; whnf) ?_
     refine GL.subR I0.mono rfl rfl (by omega) ?_
     refine GL.indexAddr I0.mono (sz := 3) (j := j - 1) rfl rfl rfl rfl rfl rfl rfl rfl (by omega) (by omega) (by omega) ?_
     refine GL.loadW I0.mono (n := 3) rfl rfl rfl rfl (by simp) (by exact mid_pr (by omega) (by omega)) rfl rfl ?_
     refine GL.move I0.mono (by conv => lhs; whnf) ?_
     refine GL.move I0.mono (by conv => lhs; whnf) ?_
     refine GL.indexAddr I0.mono (sz := 3) (j := j) rfl rfl rfl rfl rfl rfl rfl rfl (by omega) (by omega) (by omega) ?_
     refine GL.loadW I0.mono (n := 3) rfl rfl rfl rfl (by simp) (by exact mid_at rfl (by omega)) rfl rfl ?_
     refine GL.indexAddr I0.mono (sz := 3) (j := j) rfl rfl rfl rfl rfl rfl rfl rfl (by omega) (by omega) (by omega) ?_
     refine GL.storeS I0.mono (n := 3) (es' := (em kh (mid p y r' j)).set j (kh (p.getD (j - 1) default))) rfl rfl rfl rfl rfl rfl (mid_at rfl (by omega)) rfl rfl rfl rfl (Nat.le_of_ble_eq_true rfl) rfl rfl ?_
     refine GL.indexAddr I0.mono (sz := 3) (j := j - 1) rfl rfl rfl rfl rfl rfl rfl rfl (by omega) (by omega) (by omega) ?_
     refine GL.storeS I0.mono (n := 3) (es' := em kh (mid p y r' (j - 1))) rfl rfl rfl rfl rfl rfl (by show ((em kh (mid p y r' j)).set j (kh (p.getD (j - 1) default)))[j - 1]? = _; rw [List.getElem?_set_ne (by omega)]; exact mid_pr (by omega) (by omega)) rfl rfl rfl rfl (Nat.le_of_ble_eq_true rfl) rfl (mid_swap (p := p) (x := y) (r := r') (i := j - 1) (j := j) (by omega) (by omega)) ?_
     refine GL.doneT (by kernel_rfl) ?_
     refine blockX.normal ?_
     refine goOn ?_
     refine Wp.regI I0.mono ?_
     refine GL.move I0.mono (by conv => lhs; whnf) ?_
     refine GL.subR I0.mono rfl rfl (by omega) ?_
     refine GL.assign I0.mono (by conv => lhs; whnf) ?_
     refine GL.doneF ?_
     refine ⟨j - 1, (by dsimp only; omega), _, (LessS.weak (LessS.upd (LessS.upd (LessS.upd (LessS.upd (LessS.upd (LessS.upd (LessS.nil _) rfl) rfl) rfl) rfl) rfl) (by show LV.int _ _ = LV.int _ _; congr 1; omega)) _), ⟨by omega, by rw [hP, hgo]⟩, _, (congrArg (St.mk _) (effM_eq (Has.cons rfl Has.nil)).symm)⟩
    ·replace h34 := of_decide_eq_false h34
     have hq := posI_stop (k := k) (x := y) (p := p) (j := j) (by omega) (fun hc => h34 (cmp_lt.2 hc))
     refine Wp.exitI ?_
     refine thenX.exit ?_
     refine thenX.exit ?_
     refine blockX.out ?_
     refine blockX.normal ?_
     refine goOn ?_
     refine Wp.regI I0.mono ?_
     refine GL.move I0.mono (by conv => lhs; whnf) ?_
     refine GL.addR I0.mono rfl rfl (by omega) ?_
     refine GL.assign I0.mono (by conv => lhs; whnf) ?_
     refine GL.doneF ?_
     rw [show mid p y r' j = insI k p y ++ r' from by rw [← mid_pos k, hP, hq]]
     have hil := insI_len k p y
     refine ⟨⟨i + 1, insI k p y, r'⟩, (by simp), _, (LessS.weak (LessS.upd (LessS.upd (LessS.upd (LessS.upd (LessS.upd (LessS.nil _) rfl) rfl) rfl) rfl) rfl) _), ⟨by omega, by omega, hI⟩, _, (congrArg (St.mk _) (effM_eq (Has.cons rfl Has.nil)).symm)⟩
   ·rw [h21]
    replace h21 := of_decide_eq_false h21
    have hq := posI_zero (k := k) (x := y) (p := p) (j := j) (by omega)
    refine GL.guardF rfl ?_
    refine GL.guardF rfl ?_
    refine GL.guardF rfl ?_
    refine GL.guardF rfl ?_
    refine GL.guardF rfl ?_
    refine GL.guardF rfl ?_
    refine GL.guardF rfl ?_
    refine GL.guardF rfl ?_
    refine GL.guardF rfl ?_
    refine GL.guardF rfl ?_
    refine GL.guardF rfl ?_
    refine GL.guardF rfl ?_
    refine GL.pick I0.mono rfl (by conv => lhs; whnf) ?_
    refine GL.doneT (by kernel_rfl) ?_
    refine goOn ?_
    refine Wp.condF rfl ?_
    refine Wp.exitI ?_
    refine thenX.exit ?_
    refine thenX.exit ?_
    refine blockX.out ?_
    refine blockX.normal ?_
    refine goOn ?_
    refine Wp.regI I0.mono ?_
    refine GL.move I0.mono (by conv => lhs; whnf) ?_
    refine GL.addR I0.mono rfl rfl (by omega) ?_
    refine GL.assign I0.mono (by conv => lhs; whnf) ?_
    refine GL.doneF ?_
    rw [show mid p y r' j = insI k p y ++ r' from by rw [← mid_pos k, hP, hq]]
    have hil := insI_len k p y
    refine ⟨⟨i + 1, insI k p y, r'⟩, (by simp), _, (LessS.weak (LessS.upd (LessS.upd (LessS.upd (LessS.upd (LessS.upd (LessS.nil _) rfl) rfl) rfl) rfl) rfl) _), ⟨by omega, by omega, hI⟩, _, (congrArg (St.mk _) (effM_eq (Has.cons rfl Has.nil)).symm)⟩
  ·replace h14 := of_decide_eq_false h14
   refine Wp.exitI ?_
   refine thenX.exit ?_
   refine thenX.exit ?_
   refine blockX.out ?_
   refine RetJX.normal ?_
   obtain rfl : r = [] := List.eq_nil_of_length_eq_zero (by omega)
   have hpl : p.length = (x :: r0).length := by rw [← hpr]; simp
   refine ⟨_, _, _, _, _, .nil, .aggc (.tup .aggn) (.aggc (.slo (b := 500000000) rfl rfl rfl rfl (by rw [em_len, List.append_nil, hpl]; omega)) .aggn), by simp, by simp, rfl, ?_⟩
   show LV.slo 3 (List.drop 0 (em kh (p ++ []))) = _
   rw [List.drop_zero, List.append_nil, ← hI]
   rfl

set_option maxRecDepth 100000 in
set_option maxHeartbeats 4000000 in
theorem isrtHN (A : FuncId) : CallsV Try.prog 172 [.sl (em kh []), .int .i64 0, .int .i64 0, .fn A []] (.tup []) := by
  refine CallsR.intro (I0.sound _) mix Try.func172 rfl rfl (by simp [Try.f172]) (by kernel_rfl) (nb := 0) ?_
  unfold Try.f172
  refine Wp.seqI ?_
  refine Wp.regI I0.mono ?_
  refine GL.move I0.mono (by conv => lhs; whnf) ?_
  refine GL.addR I0.mono rfl rfl (by omega) ?_
  refine GL.assign I0.mono (by conv => lhs; whnf) ?_
  refine GL.doneF ?_
  refine goOn ?_
  refine Wp.blockI ?_
  refine Wp.loopI I0.mono (α := Unit) (fun _ st => (True) ∧ ∃ m0, st = ⟨(updS (updS (fun _ => LV.undef) 2 (.int .i64 0)) 8 (.int .i64 1)), effM m0 []⟩) (fun _ => 0) () ⟨_, (LessS.weak (LessS.upd (LessS.upd (LessS.nil _) rfl) rfl) _), trivial, _, (congrArg (St.mk _) (effM_eq Has.nil).symm)⟩ ?_
  rintro _ _ ⟨-, m0, rfl⟩
  refine Wp.seqI ?_
  refine Wp.seqI ?_
  refine Wp.regI I0.mono ?_
  refine GL.move I0.mono (by conv => lhs; whnf) ?_
  refine GL.move I0.mono (by conv => lhs; whnf) ?_
  refine GL.bin I0.mono rfl ?_
  refine GL.doneF ?_
  refine goOn ?_
  refine Wp.condI rfl (fun h14 => ?_) (fun h14 => ?_)
  ·replace h14 := of_decide_eq_true h14
   exact absurd h14 (by decide)
  ·replace h14 := of_decide_eq_false h14
   refine Wp.exitI ?_
   refine thenX.exit ?_
   refine thenX.exit ?_
   refine blockX.out ?_
   refine RetX.normal ?_
   refine ⟨_, _, _, _, .nil, .tup .aggn, List.nodup_nil, by simp, rfl⟩

end Go.Proofs.Ytffnlhjdlhpmjaa
