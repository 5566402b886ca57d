/- Versions, Apply: walked. -/
import Derived.Test.YtffnlhjdlhpmjaaProg
import Derived.Test.YtffnlhjdlhpmjaaLh
import Derived.KernelRfl
set_option linter.all false
namespace Go.Proofs.Ytffnlhjdlhpmjaa
open Go.Proofs Mv
set_option maxRecDepth 100000 in
set_option maxHeartbeats 4000000 in
theorem compactI (l : List Int) (hl : l.length ≤ 4294967296) : CallsM Try.prog 138 [.slo 1 (em ni l)] none fun res q => res = .slo 1 (em ni (compactF l)) := by
  refine CallsM.intro (ls := [.own 500000000 0 0 l.length none]) (e := [(500000000, ⟨0, false, .slc, 1, em ni l⟩)]) (ju := none) (I0.sound _) mix Try.func138 rfl rfl (by simp [Try.f138]) (by kernel_rfl) (nb := 0) rfl (by simp [impAs, impT, impV, impC, genAt, em_len]) (fun k hk => by cases hk) (fun _ => rfl) ?_
  unfold Try.f138
  refine Wp.seqI ?_
  refine Wp.regI I0.mono ?_
  refine GL.assign I0.mono (by conv => lhs; whnf) ?_
  refine GL.doneF ?_
  refine goOn ?_
  refine Wp.seqI ?_
  refine Wp.seqI ?_
  refine Wp.regI I0.mono ?_
  refine GL.move I0.mono (by conv => lhs; whnf) ?_
  refine GL.lenO I0.mono rfl rfl rfl rfl ?_
  refine GL.bin I0.mono rfl ?_
  refine GL.doneF ?_
  refine goOn ?_
  refine Wp.condI rfl (fun h8 => ?_) (fun h8 => ?_)
  ·replace h8 := of_decide_eq_true h8
   refine Wp.seqI ?_
   refine Wp.regI I0.mono ?_
   refine GL.move I0.mono (by conv => lhs; whnf) ?_
   refine GL.assign I0.mono (by conv => lhs; whnf) ?_
   refine GL.doneF ?_
   refine goOn ?_
   refine Wp.retI ?_
   refine thenX.ret ?_
   refine RetJX.ret ?_
   first
   | (refine ⟨_, _, _, _, .cons (.tmp rfl) .nil, .slo rfl rfl rfl rfl (by rw [List.length_take]; simp [em_len]; omega), by simp, by simp, ?_⟩; show LV.slo 1 (List.drop 0 (List.take p _)) = _; rw [List.drop_zero, cut_eq _ _ _ _ _ (by omega), hC, show i + j = l.length by omega, List.take_length]; done)
   | (refine ⟨_, _, _, _, .cons (.tmp rfl) .nil, .slo rfl rfl rfl rfl (by rw [em_len]; simp), by simp, by simp, ?_⟩; show LV.slo 1 (em ni l) = _; rw [comp_small (by omega)]; done)
   | (refine ⟨_, _, _, _, .cons (.tmp rfl) .nil, .slo rfl rfl rfl rfl (by rw [em_len]; simp), by simp, by simp, ?_⟩; show LV.slo 1 (em ni l) = _; rw [show i = l.length by omega, List.take_length] at hI; rw [hI]; done)
  ·replace h8 := of_decide_eq_false h8
   refine Wp.skipI ?_
   refine goOn ?_
   refine Wp.seqI ?_
   refine Wp.seqI ?_
   refine Wp.regI I0.mono ?_
   refine GL.assign I0.mono (by conv => lhs; whnf) ?_
   refine GL.doneF ?_
   refine goOn ?_
   refine Wp.blockI ?_
   refine Wp.loopI I0.mono (α := Nat) (fun i st => (1 ≤ i ∧ i ≤ l.length ∧ compactF (l.take i) = l.take i) ∧ ∃ m0, st = ⟨(updS (updS (fun _ => LV.undef) 0 (.own 500000000 0 0 l.length none)) 3 (.int .i64 (i : Int))), effM m0 [(500000000, ⟨0, false, .slc, 1, em ni l⟩)]⟩) (fun i => l.length - i) 1 ⟨_, (LessS.weak (LessS.upd (LessS.upd (LessS.nil _) rfl) rfl) _), ⟨Nat.le_refl _, by omega, comp_one⟩, _, (congrArg (St.mk _) (effM_eq (Has.cons rfl Has.nil)).symm)⟩ ?_
   rintro i _ ⟨⟨hi1, hil, hI⟩, m0, rfl⟩
   refine Wp.seqI ?_
   refine Wp.seqI ?_
   refine Wp.regI I0.mono ?_
   refine GL.move I0.mono (by conv => lhs; whnf) ?_
   refine GL.move I0.mono (by conv => lhs; whnf) ?_
   refine GL.lenO I0.mono rfl rfl rfl rfl ?_
   refine GL.bin I0.mono rfl ?_
   refine GL.doneF ?_
   refine goOn ?_
   refine Wp.condI rfl (fun h13 => ?_) (fun h13 => ?_)
   ·replace h13 := of_decide_eq_true h13
    refine Wp.skipI ?_
    refine goOn ?_
    refine Wp.seqI ?_
    refine Wp.blockI ?_
    refine Wp.seqI ?_
    refine Wp.regD ?_
    refine GL.move I0.mono (by conv => lhs; whnf) ?_
    refine GL.move I0.mono (by conv => lhs; whnf) ?_
    refine GL.indexAddr I0.mono (sz := 1) (j := i) rfl rfl rfl rfl rfl rfl rfl rfl (by omega) (by omega) (by omega) ?_
    refine GL.load I0.mono rfl rfl rfl rfl (by simp) (by exact em_get (by omega)) rfl ?_
    refine GL.move I0.mono (by conv => lhs; whnf) ?_
    refine GL.move I0.mono (by conv => lhs; whnf) ?_
    refine GL.subR I0.mono rfl rfl (by omega) ?_
    refine GL.indexAddr I0.mono (sz := 1) (j := i - 1) rfl rfl rfl rfl rfl rfl rfl rfl (by omega) (by omega) (by omega) ?_
    refine GL.load I0.mono rfl rfl rfl rfl (by simp) (by exact em_get (by omega)) rfl ?_
    refine GL.bin I0.mono rfl ?_
    refine GL.doneT (by kernel_rfl) ?_
    refine goOn ?_
    refine Wp.condI rfl (fun h25 => ?_) (fun h25 => ?_)
    ·replace h25 := of_decide_eq_true h25
     have hdup : l.getD i default = l.getD (i - 1) default := by simpa using h25
     refine Wp.seqI ?_
     refine Wp.regI I0.mono ?_
     refine GL.move I0.mono (by conv => lhs; whnf) ?_
     refine GL.move I0.mono (by conv => lhs; whnf) ?_
     refine GL.sliceFromO I0.mono (sz := 1) (j := i) (len' := l.length - i) rfl rfl rfl rfl rfl rfl rfl rfl (by omega) (by omega) (by rw [em_len]; omega) (by omega) (by omega) ?_
     refine GL.assign I0.mono (by conv => lhs; whnf) ?_
     refine GL.doneF ?_
     refine goOn ?_
     refine Wp.seqI ?_
     refine Wp.seqI ?_
     refine Wp.regI I0.mono ?_
     refine GL.assign I0.mono (by conv => lhs; whnf) ?_
     refine GL.doneF ?_
     refine goOn ?_
     refine Wp.blockI ?_
     refine Wp.loopI I0.mono (α := Nat × Nat × List Int) (fun ⟨p, j, s⟩ st => (1 ≤ j ∧ i + j ≤ l.length ∧ p < i + j ∧ s.length = l.length ∧ s.take p = compactF (l.take (i + j)) ∧ s.drop (i + j - 1) = l.drop (i + j - 1)) ∧ ∃ m0, st = ⟨(updS (updS (updS (updS (fun _ => LV.undef) 0 (.own 500000000 0 0 l.length none)) 3 (.int .i64 (p : Int))) 4 (.own 500000000 0 i (l.length - i) none)) 5 (.int .i64 (j : Int))), effM m0 [(500000000, ⟨0, false, .slc, 1, em ni s⟩)]⟩) (fun ⟨p, j, s⟩ => l.length - i - j) ⟨i, 1, l⟩ ⟨_, (LessS.weak (LessS.upd (LessS.upd (LessS.upd (LessS.upd (LessS.nil _) rfl) rfl) rfl) rfl) _), ⟨Nat.le_refl _, by omega, by omega, rfl, by rw [comp_eq (by omega) (by omega) hdup, hI], rfl⟩, _, (congrArg (St.mk _) (effM_eq (Has.cons rfl Has.nil)).symm)⟩ ?_
     rintro ⟨p, j, s⟩ _ ⟨⟨hj1, hijl, hpj, hsl, hC, hd⟩, m0, rfl⟩
     refine Wp.seqI ?_
     refine Wp.seqI ?_
     refine Wp.regI I0.mono ?_
     refine GL.move I0.mono (by conv => lhs; whnf) ?_
     refine GL.move I0.mono (by conv => lhs; whnf) ?_
     refine GL.lenO I0.mono rfl rfl rfl rfl ?_
     refine GL.bin I0.mono rfl ?_
     refine GL.doneF ?_
     refine goOn ?_
     refine Wp.condI rfl (fun h32 => ?_) (fun h32 => ?_)
     ·replace h32 := of_decide_eq_true h32
      have g1 := drop_getD_eq (j := i + j - 1) hd (by omega)
      have g2 := drop_getD_eq (s := s) (l := l) (j := i + j) (by have := drop_tail_eq hd; rwa [show i + j - 1 + 1 = i + j by omega] at this) (by omega)
      refine Wp.skipI ?_
      refine goOn ?_
      refine Wp.seqI ?_
      refine Wp.blockI ?_
      refine Wp.seqI ?_
      refine Wp.regD ?_
      refine GL.move I0.mono (by conv => lhs; whnf) ?_
      refine GL.move I0.mono (by conv => lhs; whnf) ?_
      refine GL.indexAddr I0.mono (sz := 1) (j := i + j) rfl rfl rfl rfl rfl rfl rfl rfl (by omega) (by omega) (by omega) ?_
      refine GL.load I0.mono rfl rfl rfl rfl (by simp) (by exact em_get (by omega)) rfl ?_
      refine GL.move I0.mono (by conv => lhs; whnf) ?_
      refine GL.move I0.mono (by conv => lhs; whnf) ?_
      refine GL.subR I0.mono rfl rfl (by omega) ?_
      refine GL.indexAddr I0.mono (sz := 1) (j := i + j - 1) rfl rfl rfl rfl rfl rfl rfl rfl (by omega) (by omega) (by omega) ?_
      refine GL.load I0.mono rfl rfl rfl rfl (by simp) (by exact em_get (by omega)) rfl ?_
      refine GL.bin I0.mono rfl ?_
      refine GL.doneT (by kernel_rfl) ?_
      refine goOn ?_
      refine Wp.condI rfl (fun h44 => ?_) (fun h44 => ?_)
      ·replace h44 := bne_true h44
       have hdif : s.getD (i + j) default ≠ s.getD (i + j - 1) default := by simpa using h44
       rw [g1, g2] at hdif
       refine Wp.seqI ?_
       refine Wp.regI I0.mono ?_
       refine GL.move I0.mono (by conv => lhs; whnf) ?_
       refine GL.move I0.mono (by conv => lhs; whnf) ?_
       refine GL.move I0.mono (by conv => lhs; whnf) ?_
       refine GL.move I0.mono (by conv => lhs; whnf) ?_
       refine GL.indexAddr I0.mono (sz := 1) (j := i + j) rfl rfl rfl rfl rfl rfl rfl rfl (by omega) (by omega) (by omega) ?_
       refine GL.load I0.mono rfl rfl rfl rfl (by simp) (by exact em_get (by omega)) rfl ?_
       refine GL.indexAddr I0.mono (sz := 1) (j := p) rfl rfl rfl rfl rfl rfl rfl rfl (by omega) (by omega) (by omega) ?_
       refine GL.storeS I0.mono (n := 1) (es' := em ni (s.set p (s.getD (i + j) default))) rfl rfl rfl rfl rfl rfl (em_get (by omega)) rfl rfl rfl rfl (Nat.le_of_ble_eq_true rfl) rfl (em_set ni _ _ _) ?_
       refine GL.doneF ?_
       refine goOn ?_
       refine Wp.regI I0.mono ?_
       refine GL.move I0.mono (by conv => lhs; whnf) ?_
       refine GL.addR I0.mono rfl rfl (by omega) ?_
       refine GL.assign I0.mono (by conv => lhs; whnf) ?_
       refine GL.doneF ?_
       refine blockX.normal ?_
       refine goOn ?_
       refine Wp.regI I0.mono ?_
       refine GL.move I0.mono (by conv => lhs; whnf) ?_
       refine GL.addR I0.mono rfl rfl (by omega) ?_
       refine GL.assign I0.mono (by conv => lhs; whnf) ?_
       refine GL.doneF ?_
       first
       | refine ⟨⟨p, j + 1, s⟩, (by dsimp only; omega), _, (LessS.weak (LessS.upd (LessS.upd (LessS.upd (LessS.upd (LessS.nil _) rfl) rfl) rfl) rfl) _), ⟨by omega, by omega, by omega, hsl, by rw [hC, ← Nat.add_assoc, comp_eq (by omega) (by omega) hdup2], by have := drop_tail_eq hd; rwa [show i + j - 1 + 1 = i + (j + 1) - 1 by omega] at this⟩, _, (congrArg (St.mk _) (effM_eq (Has.cons rfl Has.nil)).symm)⟩
       | refine ⟨⟨p + 1, j + 1, s.set p (s.getD (i + j) default)⟩, (by dsimp only; omega), _, (LessS.weak (LessS.upd (LessS.upd (LessS.upd (LessS.upd (LessS.nil _) rfl) rfl) rfl) rfl) _), ⟨by omega, by omega, by omega, by rw [List.length_set, hsl], by rw [take_set (by omega), hC, g2, ← Nat.add_assoc, comp_ne (by omega) (by omega) hdif], by have := drop_tail_eq hd; rw [show i + j - 1 + 1 = i + (j + 1) - 1 by omega] at this; exact set_drop (by omega) this⟩, _, (congrArg (St.mk _) (effM_eq (Has.cons rfl Has.nil)).symm)⟩
      ·replace h44 := bne_false h44
       have hdup2 : s.getD (i + j) default = s.getD (i + j - 1) default := by simpa using h44
       rw [g1, g2] at hdup2
       refine Wp.skipI ?_
       refine blockX.normal ?_
       refine goOn ?_
       refine Wp.regI I0.mono ?_
       refine GL.move I0.mono (by conv => lhs; whnf) ?_
       refine GL.addR I0.mono rfl rfl (by omega) ?_
       refine GL.assign I0.mono (by conv => lhs; whnf) ?_
       refine GL.doneF ?_
       first
       | refine ⟨⟨p, j + 1, s⟩, (by dsimp only; omega), _, (LessS.weak (LessS.upd (LessS.upd (LessS.upd (LessS.upd (LessS.nil _) rfl) rfl) rfl) rfl) _), ⟨by omega, by omega, by omega, hsl, by rw [hC, ← Nat.add_assoc, comp_eq (by omega) (by omega) hdup2], by have := drop_tail_eq hd; rwa [show i + j - 1 + 1 = i + (j + 1) - 1 by omega] at this⟩, _, (congrArg (St.mk _) (effM_eq (Has.cons rfl Has.nil)).symm)⟩
       | refine ⟨⟨p + 1, j + 1, s.set p (s.getD (i + j) default)⟩, (by dsimp only; omega), _, (LessS.weak (LessS.upd (LessS.upd (LessS.upd (LessS.upd (LessS.nil _) rfl) rfl) rfl) rfl) _), ⟨by omega, by omega, by omega, by rw [List.length_set, hsl], by rw [take_set (by omega), hC, g2, ← Nat.add_assoc, comp_ne (by omega) (by omega) hdif], by have := drop_tail_eq hd; rw [show i + j - 1 + 1 = i + (j + 1) - 1 by omega] at this; exact set_drop (by omega) this⟩, _, (congrArg (St.mk _) (effM_eq (Has.cons rfl Has.nil)).symm)⟩
     ·replace h32 := of_decide_eq_false h32
      refine Wp.exitI ?_
      refine thenX.exit ?_
      refine thenX.exit ?_
      refine blockX.out ?_
      refine goOn ?_
      refine Wp.seqI ?_
      refine Wp.regI I0.mono ?_
      refine GL.move I0.mono (by conv => lhs; whnf) ?_
      refine GL.move I0.mono (by conv => lhs; whnf) ?_
      refine GL.sliceFromO I0.mono (sz := 1) (j := p) (len' := l.length - p) rfl rfl rfl rfl rfl rfl rfl rfl (by omega) (by omega) (by rw [em_len]; omega) (by simp) (by simp) ?_
      refine GL.clear I0.mono (z := [.int .i64 0]) rfl rfl (by decide) rfl rfl rfl rfl rfl rfl rfl (by rw [em_len]; omega) rfl ?_
      refine GL.doneF ?_
      refine goOn ?_
      refine Wp.seqI ?_
      refine Wp.regI I0.mono ?_
      refine GL.move I0.mono (by conv => lhs; whnf) ?_
      refine GL.move I0.mono (by conv => lhs; whnf) ?_
      refine GL.sliceToO I0.mono (sz := 1) (j := p) rfl rfl rfl rfl rfl rfl rfl rfl (by omega) (by omega) (by simp [em_len]; omega) (by simp) ?_
      refine GL.assign I0.mono (by conv => lhs; whnf) ?_
      refine GL.doneF ?_
      refine goWeak (Weak.cutSl (j := 2) (b := 500000000) (i := p) rfl rfl rfl rfl rfl (by simp [em_len]; omega)) ?_
      refine Wp.retI ?_
      refine blockX.ret ?_
      refine thenX.ret ?_
      refine thenX.ret ?_
      refine blockX.ret ?_
      refine thenX.ret ?_
      refine RetJX.ret ?_
      first
      | (refine ⟨_, _, _, _, .cons (.tmp rfl) .nil, .slo rfl rfl rfl rfl (by rw [List.length_take]; simp [em_len]; omega), by simp, by simp, ?_⟩; show LV.slo 1 (List.drop 0 (List.take p _)) = _; rw [List.drop_zero, cut_eq _ _ _ _ _ (by omega), hC, show i + j = l.length by omega, List.take_length]; done)
      | (refine ⟨_, _, _, _, .cons (.tmp rfl) .nil, .slo rfl rfl rfl rfl (by rw [em_len]; simp), by simp, by simp, ?_⟩; show LV.slo 1 (em ni l) = _; rw [comp_small (by omega)]; done)
      | (refine ⟨_, _, _, _, .cons (.tmp rfl) .nil, .slo rfl rfl rfl rfl (by rw [em_len]; simp), by simp, by simp, ?_⟩; show LV.slo 1 (em ni l) = _; rw [show i = l.length by omega, List.take_length] at hI; rw [hI]; done)
    ·replace h25 := of_decide_eq_false h25
     have hdif : l.getD i default ≠ l.getD (i - 1) default := by simpa using h25
     refine Wp.skipI ?_
     refine blockX.normal ?_
     refine goOn ?_
     refine Wp.regI I0.mono ?_
     refine GL.move I0.mono (by conv => lhs; whnf) ?_
     refine GL.addR I0.mono rfl rfl (by omega) ?_
     refine GL.assign I0.mono (by conv => lhs; whnf) ?_
     refine GL.doneF ?_
     refine ⟨i + 1, (by dsimp only; omega), _, (LessS.weak (LessS.upd (LessS.upd (LessS.nil _) rfl) rfl) _), ⟨by omega, by omega, by rw [comp_ne (by omega) (by omega) hdif, hI, take_snocG (by omega)]⟩, _, (congrArg (St.mk _) (effM_eq (Has.cons rfl Has.nil)).symm)⟩
   ·replace h13 := of_decide_eq_false h13
    refine Wp.exitI ?_
    refine thenX.exit ?_
    refine thenX.exit ?_
    refine blockX.out ?_
    refine goOn ?_
    refine Wp.seqI ?_
    refine Wp.regI I0.mono ?_
    refine GL.move I0.mono (by conv => lhs; whnf) ?_
    refine GL.assign I0.mono (by conv => lhs; whnf) ?_
    refine GL.doneF ?_
    refine goOn ?_
    refine Wp.retI ?_
    refine RetJX.ret ?_
    first
    | (refine ⟨_, _, _, _, .cons (.tmp rfl) .nil, .slo rfl rfl rfl rfl (by rw [List.length_take]; simp [em_len]; omega), by simp, by simp, ?_⟩; show LV.slo 1 (List.drop 0 (List.take p _)) = _; rw [List.drop_zero, cut_eq _ _ _ _ _ (by omega), hC, show i + j = l.length by omega, List.take_length]; done)
    | (refine ⟨_, _, _, _, .cons (.tmp rfl) .nil, .slo rfl rfl rfl rfl (by rw [em_len]; simp), by simp, by simp, ?_⟩; show LV.slo 1 (em ni l) = _; rw [comp_small (by omega)]; done)
    | (refine ⟨_, _, _, _, .cons (.tmp rfl) .nil, .slo rfl rfl rfl rfl (by rw [em_len]; simp), by simp, by simp, ?_⟩; show LV.slo 1 (em ni l) = _; rw [show i = l.length by omega, List.take_length] at hI; rw [hI]; done)

theorem getD_mapI {α : Type} [Inhabited α] (f : α → Int) {l : List α} {i : Nat} (h : i < l.length) : (l.map f).getD i default = f (l.getD i default) := by
  simp [List.getD, h]
theorem moved_len {T : Delta} (hT : OkD T) : (movedL T).length ≤ 40000000 := by
  obtain ⟨d1, -, -, d4⟩ := hT
  have hb := coll_len Turn.before T.turns []
  have ha := coll_len Turn.after T.turns []
  have sb := sum_le (N := 1000000) (l := T.turns.map fun t => t.before.length) (by intro x hx; obtain ⟨t, ht, rfl⟩ := List.mem_map.1 hx; exact (d4 t ht).1)
  have sa := sum_le (N := 1000000) (l := T.turns.map fun t => t.after.length) (by intro x hx; obtain ⟨t, ht, rfl⟩ := List.mem_map.1 hx; exact (d4 t ht).2)
  rw [List.length_map] at sa sb
  have h1 := List.length_filter_le (fun s => !decide (s ∈ collA T.turns)) (collB T.turns)
  have h2 := List.length_filter_le (fun s => !decide (s ∈ collB T.turns)) (collA T.turns)
  have e1 : (collB T.turns).length ≤ 19000000 := Nat.le_trans hb (by simp only [List.length_nil]; omega)
  have e2 : (collA T.turns).length ≤ 19000000 := Nat.le_trans ha (by simp only [List.length_nil]; omega)
  rw [movedL, sorted_len, List.length_append]
  omega
theorem insI_mem {α : Type} [Inhabited α] (k : α → Int) (p : List α) (x y : α) : y ∈ insI k p x ↔ y = x ∨ y ∈ p := by
  unfold insI
  rw [List.mem_append, List.mem_cons]
  constructor
  · rintro (h | h | h)
    · exact .inr (List.mem_of_mem_take h)
    · exact .inl h
    · exact .inr (List.mem_of_mem_drop h)
  · rintro (h | h)
    · exact .inr (.inl h)
    · rw [← List.take_append_drop (posI k x p p.length) p] at h
      rcases List.mem_append.1 h with h | h
      · exact .inl h
      · exact .inr (.inr h)
theorem isort_mem {α : Type} [Inhabited α] (k : α → Int) (y : α) : ∀ (r p : List α), y ∈ isort k p r ↔ y ∈ p ∨ y ∈ r
  | [], p => by simp [isort]
  | x :: r, p => by
    rw [isort, isort_mem k y r, insI_mem, List.mem_cons]
    constructor
    · rintro ((h | h) | h)
      · exact .inr (.inl h)
      · exact .inl h
      · exact .inr (.inr h)
    · rintro (h | h | h)
      · exact .inl (.inr h)
      · exact .inl (.inl h)
      · exact .inr h
theorem okD_tidy {d : Delta} (h : OkD d) : OkD (tidyD d) := by
  obtain ⟨h1, h2, h3, h4⟩ := h
  refine ⟨?_, ?_, ?_, fun t ht => h4 t ?_⟩
  · show (isort _ _ _).length < 20
    rw [isort_len]
    have := List.length_filter_le (fun x => !chgT x) d.turns
    simp only [List.length_nil]
    omega
  · show (isort _ _ _).length < 20
    rw [isort_len]
    have := List.length_filter_le (fun x => !chgH x) d.locks
    simp only [List.length_nil]
    omega
  · show (isort _ _ _).length < 20
    rw [isort_len]
    have := List.length_filter_le (fun x => !chgH x) d.ices
    simp only [List.length_nil]
    omega
  · rcases (isort_mem Turn.car t _ _).1 ht with h | h
    · cases h
    · exact (List.mem_filter.1 h).1
theorem sorted_nil : sorted [] = [] := by simp [sorted]

set_option maxRecDepth 100000 in
set_option maxHeartbeats 4000000 in
theorem count_ok (p : Plan) (hp : OkP p) (d T : Delta) (hd : OkD d) (hT : OkD T) (he : tidyD d = T) (hb : InB p T) : CallsM Try.prog 91 [kpo p, .agg (kd d)] none fun res q => res = kpo (countP p T) := by
  refine CallsM.intro (ls := [.agg [.own 500000000 0 0 p.routes.length none, .own 500000001 0 0 p.lock.length none, .own 500000002 0 0 p.ice.length none, .own 500000003 0 0 p.rv.length none, .own 500000004 0 0 p.sv.length none, .own 500000005 0 0 p.iv.length none, .int .i64 p.pv], .agg (kd d)]) (e := [(500000000, ⟨0, false, .slc, 1, em nr p.routes⟩), (500000001, ⟨0, false, .slc, 1, em ni p.lock⟩), (500000002, ⟨0, false, .slc, 1, em ni p.ice⟩), (500000003, ⟨0, false, .slc, 1, em ni p.rv⟩), (500000004, ⟨0, false, .slc, 1, em ni p.sv⟩), (500000005, ⟨0, false, .slc, 1, em ni p.iv⟩)]) (ju := none) (I0.sound _) mix Try.func91 rfl rfl (by simp [Try.f91]) (by kernel_rfl) (nb := 0) rfl (by simp only [impAs, impT, impV, impCs, impC, genAt, em_len, kpo, kd, List.cons_append, List.nil_append, List.append_nil, effM, updM]) (fun k hk => by cases hk) (fun _ => rfl) ?_
  unfold Try.f91
  refine Wp.seqI ?_
  have hM := moved_len hT
  obtain ⟨p1, p2, p3, p4, p5, p6, p7⟩ := hp
  obtain ⟨d1, d2, d3, d4⟩ := hT
  obtain ⟨b1, b2, b3⟩ := hb
  refine Wp.regI I0.mono ?_
  refine GL.box I0.mono (by conv => lhs; whnf) rfl (n := 7) rfl rfl ?_
  intro g2
  refine GL.box I0.mono (by conv => lhs; whnf) rfl (n := 3) rfl rfl ?_
  intro g3
  refine GL.alloc I0.mono (cs := [LV.nils, LV.nils, LV.nils, LV.nils, LV.nils, LV.nils, LV.int .i64 0]) rfl rfl ?_
  intro g4
  refine GL.doneF ?_
  refine goOn ?_
  refine Wp.seqI ?_
  refine Wp.regI I0.mono ?_
  refine GL.loadW I0.mono (n := 3) rfl rfl rfl rfl (by simp) (by rfl) rfl rfl ?_
  refine GL.call0 I0.mono rfl (Frz.aggc (by exact Frz.pures rfl) (Frz.aggn)) (he ▸ tidy_ok d hd) rfl rfl (fun _ => rfl) ?_
  refine GL.storeW I0.mono (n := 3) rfl rfl rfl rfl rfl rfl rfl (by conv => lhs; whnf) rfl rfl rfl ?_
  refine GL.doneF ?_
  refine goOn ?_
  refine Wp.seqI ?_
  refine Wp.regI I0.mono ?_
  refine GL.loadW I0.mono (n := 3) rfl rfl rfl rfl (by simp) (by rfl) rfl rfl ?_
  refine GL.call0 I0.mono rfl (Frz.aggc (by exact Frz.pures rfl) (Frz.aggn)) (moved_f T ⟨d1, d2, d3, d4⟩) rfl rfl (fun _ => rfl) ?_
  refine GL.assign I0.mono (by conv => lhs; whnf) ?_
  refine GL.doneF ?_
  refine goOn ?_
  refine Wp.seqI ?_
  refine Wp.seqI ?_
  refine Wp.regI I0.mono ?_
  refine GL.fieldAddr I0.mono (o := 0) rfl rfl rfl rfl (by conv => lhs; whnf) ?_
  refine GL.load I0.mono rfl rfl rfl rfl (by simp) (by rfl) rfl ?_
  refine GL.lenF I0.mono rfl rfl (em_len _ _) ?_
  refine GL.move I0.mono (by conv => lhs; whnf) ?_
  refine GL.doneF ?_
  refine goOn ?_
  refine Wp.blockI ?_
  refine Wp.loopI I0.mono (α := Nat × List Int) (fun ⟨i, RV⟩ st => (i ≤ T.turns.length ∧ RV = bump p.rv ((T.turns.map Turn.car).take i)) ∧ ∃ m0, st = ⟨(updS (updS (updS (updS (updS (updS (updS (fun _ => LV.undef) 2 (.ref 128 g2 0 0)) 3 (.ref 192 g3 0 0)) 4 (.ref 256 g4 0 0)) 5 (.sl (em ni (movedL T)))) 20 (.sl (em kt T.turns))) 21 (.int .i64 (T.turns.length : Int))) 22 (.int .i64 (i : Int))), effM m0 [(128, ⟨g2, false, .var, 7, [[.own 500000000 0 0 p.routes.length none, .own 500000001 0 0 p.lock.length none, .own 500000002 0 0 p.ice.length none, .own 500000003 0 0 p.rv.length none, .own 500000004 0 0 p.sv.length none, .own 500000005 0 0 p.iv.length none, .int .i64 p.pv]]⟩), (192, ⟨g3, false, .var, 3, [kd T]⟩), (256, ⟨g4, false, .var, 7, [[.nils, .nils, .nils, .nils, .nils, .nils, .int .i64 0]]⟩), (500000000, ⟨0, false, .slc, 1, em nr p.routes⟩), (500000001, ⟨0, false, .slc, 1, em ni p.lock⟩), (500000002, ⟨0, false, .slc, 1, em ni p.ice⟩), (500000003, ⟨0, false, .slc, 1, em ni RV⟩), (500000004, ⟨0, false, .slc, 1, em ni p.sv⟩), (500000005, ⟨0, false, .slc, 1, em ni p.iv⟩)]⟩) (fun ⟨i, RV⟩ => T.turns.length - i) ⟨0, p.rv⟩ ⟨_, (LessS.weak (LessS.upd (LessS.upd (LessS.upd (LessS.upd (LessS.upd (LessS.upd (LessS.upd (LessS.nil _) rfl) rfl) rfl) rfl) rfl) rfl) rfl) _), ⟨Nat.zero_le _, rfl⟩, _, (congrArg (St.mk _) (effM_eq (Has.cons rfl (Has.cons rfl (Has.cons rfl (Has.cons rfl (Has.cons rfl (Has.cons rfl (Has.cons rfl (Has.cons rfl (Has.cons rfl Has.nil)))))))))).symm)⟩ ?_
  rintro ⟨i, RV⟩ _ ⟨⟨hi, hR0⟩, m0, rfl⟩
  have hR0l : RV.length = p.rv.length := by rw [hR0, bump_len]
  refine Wp.seqI ?_
  refine Wp.regI I0.mono ?_
  refine GL.bin I0.mono rfl ?_
  refine GL.doneF ?_
  refine goOn ?_
  refine Wp.seqI ?_
  refine Wp.condI rfl (fun h23 => ?_) (fun h23 => ?_)
  ·replace h23 := of_decide_eq_true h23
   have hc := b1 _ (getD_mem (l := T.turns) (j := i) (by omega))
   refine Wp.skipI ?_
   refine goOn ?_
   refine Wp.seqI ?_
   refine Wp.blockI ?_
   refine Wp.seqI ?_
   refine Wp.regI I0.mono ?_
   refine GL.indexAddrF I0.mono (sz := 3) rfl rfl rfl rfl (by omega) (by (rw [em_len]; omega)) (by intro e he; obtain ⟨a, -, rfl⟩ := List.mem_map.1 he; rfl) (by with_reducible exact Int.toNat_natCast _) ?_
   refine GL.loadFW I0.mono (n := 3) rfl rfl (em_get (by omega)) rfl rfl ?_
   refine GL.alloc I0.mono (cs := [LV.int .i64 0, LV.nils, LV.nils]) rfl rfl ?_
   intro g7
   refine GL.storeW I0.mono (n := 3) rfl rfl rfl rfl rfl rfl rfl (by conv => lhs; whnf) rfl rfl rfl ?_
   refine GL.doneF ?_
   refine goOn ?_
   refine Wp.regI I0.mono ?_
   refine GL.fieldAddr I0.mono (o := 3) rfl rfl rfl rfl (by conv => lhs; whnf) ?_
   refine GL.load I0.mono rfl rfl rfl rfl (by simp) (by rfl) rfl ?_
   refine GL.fieldAddr I0.mono (o := 0) rfl rfl rfl rfl (by conv => lhs; whnf) ?_
   refine GL.load I0.mono rfl rfl rfl rfl (by simp) (by rfl) rfl ?_
   refine GL.indexAddr I0.mono (sz := 1) (j := (T.turns.getD i default).car.toNat) rfl rfl rfl rfl rfl rfl rfl rfl (by omega) (by omega) (by omega) ?_
   refine GL.load I0.mono rfl rfl rfl rfl (by simp) (by exact em_get (by omega)) rfl ?_
   refine GL.bin I0.mono rfl ?_
   refine GL.indexAddr I0.mono (sz := 1) (j := (T.turns.getD i default).car.toNat) rfl rfl rfl rfl rfl rfl rfl rfl (by omega) (by omega) (by omega) ?_
   refine GL.storeS I0.mono (n := 1) rfl rfl rfl rfl rfl rfl (em_get (by omega)) rfl rfl rfl rfl (Nat.le_of_ble_eq_true rfl) rfl (em_set ni _ _ (wadd (RV.getD (T.turns.getD i default).car.toNat default) 1)) ?_
   refine GL.doneF ?_
   refine blockX.normal ?_
   refine goOn ?_
   refine Wp.regI I0.mono ?_
   refine GL.addR I0.mono rfl rfl (by omega) ?_
   refine GL.move I0.mono (by conv => lhs; whnf) ?_
   refine GL.doneF ?_
   refine ⟨⟨i + 1, _⟩, (by dsimp only; omega), _, (LessS.weak (LessS.upd (LessS.upd (LessS.upd (LessS.upd (LessS.upd (LessS.upd (LessS.upd (LessS.nil _) rfl) rfl) rfl) rfl) rfl) rfl) rfl) _), ⟨by omega, by rw [bump_snoc _ _ (by rw [List.length_map]; omega), ← hR0, bump1, getD_mapI _ (by omega)]⟩, _, (congrArg (St.mk _) (effM_eq (Has.cons rfl (Has.cons rfl (Has.cons rfl (Has.cons rfl (Has.cons rfl (Has.cons rfl (Has.cons rfl (Has.cons rfl (Has.cons rfl Has.nil)))))))))).symm)⟩
  ·replace h23 := of_decide_eq_false h23
   have hRV : RV = bump p.rv (T.turns.map Turn.car) := by rw [hR0, List.take_of_length_le (by rw [List.length_map]; omega)]
   have hRl := hR0l
   refine Wp.exitI ?_
   refine thenX.exit ?_
   refine thenX.exit ?_
   refine blockX.out ?_
   refine goOn ?_
   refine Wp.seqI ?_
   refine Wp.seqI ?_
   refine Wp.regI I0.mono ?_
   refine GL.fieldAddr I0.mono (o := 2) rfl rfl rfl rfl (by conv => lhs; whnf) ?_
   refine GL.load I0.mono rfl rfl rfl rfl (by simp) (by rfl) rfl ?_
   refine GL.lenF I0.mono rfl rfl (em_len _ _) ?_
   refine GL.move I0.mono (by conv => lhs; whnf) ?_
   refine GL.doneF ?_
   refine goOn ?_
   refine Wp.blockI ?_
   refine Wp.loopI I0.mono (α := Nat × List Int) (fun ⟨i, IV⟩ st => (i ≤ T.ices.length ∧ IV = bump p.iv ((T.ices.map Hold.n).take i)) ∧ ∃ m0, st = ⟨(updS (updS (updS (updS (updS (updS (updS (fun _ => LV.undef) 2 (.ref 128 g2 0 0)) 3 (.ref 192 g3 0 0)) 4 (.ref 256 g4 0 0)) 5 (.sl (em ni (movedL T)))) 36 (.sl (em kh T.ices))) 37 (.int .i64 (T.ices.length : Int))) 38 (.int .i64 (i : Int))), effM m0 [(128, ⟨g2, false, .var, 7, [[.own 500000000 0 0 p.routes.length none, .own 500000001 0 0 p.lock.length none, .own 500000002 0 0 p.ice.length none, .own 500000003 0 0 p.rv.length none, .own 500000004 0 0 p.sv.length none, .own 500000005 0 0 p.iv.length none, .int .i64 p.pv]]⟩), (192, ⟨g3, false, .var, 3, [kd T]⟩), (256, ⟨g4, false, .var, 7, [[.nils, .nils, .nils, .nils, .nils, .nils, .int .i64 0]]⟩), (500000000, ⟨0, false, .slc, 1, em nr p.routes⟩), (500000001, ⟨0, false, .slc, 1, em ni p.lock⟩), (500000002, ⟨0, false, .slc, 1, em ni p.ice⟩), (500000003, ⟨0, false, .slc, 1, em ni RV⟩), (500000004, ⟨0, false, .slc, 1, em ni p.sv⟩), (500000005, ⟨0, false, .slc, 1, em ni IV⟩)]⟩) (fun ⟨i, IV⟩ => T.ices.length - i) ⟨0, p.iv⟩ ⟨_, (LessS.weak (LessS.upd (LessS.upd (LessS.upd (LessS.upd (LessS.upd (LessS.upd (LessS.upd (LessS.nil _) rfl) rfl) rfl) rfl) rfl) rfl) rfl) _), ⟨Nat.zero_le _, rfl⟩, _, (congrArg (St.mk _) (effM_eq (Has.cons rfl (Has.cons rfl (Has.cons rfl (Has.cons rfl (Has.cons rfl (Has.cons rfl (Has.cons rfl (Has.cons rfl (Has.cons rfl Has.nil)))))))))).symm)⟩ ?_
   rintro ⟨i, IV⟩ _ ⟨⟨hi2, hI0⟩, m0, rfl⟩
   have hI0l : IV.length = p.iv.length := by rw [hI0, bump_len]
   refine Wp.seqI ?_
   refine Wp.regI I0.mono ?_
   refine GL.bin I0.mono rfl ?_
   refine GL.doneF ?_
   refine goOn ?_
   refine Wp.seqI ?_
   refine Wp.condI rfl (fun h39 => ?_) (fun h39 => ?_)
   ·replace h39 := of_decide_eq_true h39
    have hc := b2 _ (getD_mem (l := T.ices) (j := i) (by omega))
    refine Wp.skipI ?_
    refine goOn ?_
    refine Wp.seqI ?_
    refine Wp.blockI ?_
    refine Wp.seqI ?_
    refine Wp.regI I0.mono ?_
    refine GL.indexAddrF I0.mono (sz := 3) rfl rfl rfl rfl (by omega) (by (rw [em_len]; omega)) (by intro e he; obtain ⟨a, -, rfl⟩ := List.mem_map.1 he; rfl) (by with_reducible exact Int.toNat_natCast _) ?_
    refine GL.loadFW I0.mono (n := 3) rfl rfl (em_get (by omega)) rfl rfl ?_
    refine GL.alloc I0.mono (cs := [LV.int .i64 0, LV.int .i64 0, LV.int .i64 0]) rfl rfl ?_
    intro g9
    refine GL.storeW I0.mono (n := 3) rfl rfl rfl rfl rfl rfl rfl (by conv => lhs; whnf) rfl rfl rfl ?_
    refine GL.doneF ?_
    refine goOn ?_
    refine Wp.regI I0.mono ?_
    refine GL.fieldAddr I0.mono (o := 5) rfl rfl rfl rfl (by conv => lhs; whnf) ?_
    refine GL.load I0.mono rfl rfl rfl rfl (by simp) (by rfl) rfl ?_
    refine GL.fieldAddr I0.mono (o := 0) rfl rfl rfl rfl (by conv => lhs; whnf) ?_
    refine GL.load I0.mono rfl rfl rfl rfl (by simp) (by rfl) rfl ?_
    refine GL.indexAddr I0.mono (sz := 1) (j := (T.ices.getD i default).n.toNat) rfl rfl rfl rfl rfl rfl rfl rfl (by omega) (by omega) (by omega) ?_
    refine GL.load I0.mono rfl rfl rfl rfl (by simp) (by exact em_get (by omega)) rfl ?_
    refine GL.bin I0.mono rfl ?_
    refine GL.indexAddr I0.mono (sz := 1) (j := (T.ices.getD i default).n.toNat) rfl rfl rfl rfl rfl rfl rfl rfl (by omega) (by omega) (by omega) ?_
    refine GL.storeS I0.mono (n := 1) rfl rfl rfl rfl rfl rfl (em_get (by omega)) rfl rfl rfl rfl (Nat.le_of_ble_eq_true rfl) rfl (em_set ni _ _ (wadd (IV.getD (T.ices.getD i default).n.toNat default) 1)) ?_
    refine GL.doneF ?_
    refine blockX.normal ?_
    refine goOn ?_
    refine Wp.regI I0.mono ?_
    refine GL.addR I0.mono rfl rfl (by omega) ?_
    refine GL.move I0.mono (by conv => lhs; whnf) ?_
    refine GL.doneF ?_
    refine ⟨⟨i + 1, _⟩, (by dsimp only; omega), _, (LessS.weak (LessS.upd (LessS.upd (LessS.upd (LessS.upd (LessS.upd (LessS.upd (LessS.upd (LessS.nil _) rfl) rfl) rfl) rfl) rfl) rfl) rfl) _), ⟨by omega, by rw [bump_snoc _ _ (by rw [List.length_map]; omega), ← hI0, bump1, getD_mapI _ (by omega)]⟩, _, (congrArg (St.mk _) (effM_eq (Has.cons rfl (Has.cons rfl (Has.cons rfl (Has.cons rfl (Has.cons rfl (Has.cons rfl (Has.cons rfl (Has.cons rfl (Has.cons rfl Has.nil)))))))))).symm)⟩
   ·replace h39 := of_decide_eq_false h39
    have hIV : IV = bump p.iv (T.ices.map Hold.n) := by rw [hI0, List.take_of_length_le (by rw [List.length_map]; omega)]
    have hIl := hI0l
    refine Wp.exitI ?_
    refine thenX.exit ?_
    refine thenX.exit ?_
    refine blockX.out ?_
    refine goOn ?_
    refine Wp.seqI ?_
    refine Wp.regI I0.mono ?_
    refine GL.move I0.mono (by conv => lhs; whnf) ?_
    refine GL.callSlo I0.mono rfl (Frz.aggc (Frz.pure rfl) Frz.aggn) (cloneI _ (by omega)) rfl (em_len _ _) ?_
    intro g52
    refine GL.assign I0.mono (by conv => lhs; whnf) ?_
    refine GL.doneF ?_
    refine goOn ?_
    refine Wp.seqI ?_
    refine Wp.seqI ?_
    refine Wp.regI I0.mono ?_
    refine GL.fieldAddr I0.mono (o := 1) rfl rfl rfl rfl (by conv => lhs; whnf) ?_
    refine GL.load I0.mono rfl rfl rfl rfl (by simp) (by rfl) rfl ?_
    refine GL.lenF I0.mono rfl rfl (em_len _ _) ?_
    refine GL.move I0.mono (by conv => lhs; whnf) ?_
    refine GL.doneF ?_
    refine goOn ?_
    refine Wp.blockI ?_
    refine Wp.loopI I0.mono (α := Nat × Nat × List Int) (fun ⟨i, g, r⟩ st => (i ≤ T.locks.length ∧ r = movedL T ++ (T.locks.take i).map Hold.n) ∧ ∃ m0, st = ⟨(updS (updS (updS (updS (updS (updS (updS (updS (fun _ => LV.undef) 2 (.ref 128 g2 0 0)) 3 (.ref 192 g3 0 0)) 4 (.ref 256 g4 0 0)) 5 (.sl (em ni (movedL T)))) 10 (.own 3328 g 0 r.length none)) 54 (.sl (em kh T.locks))) 55 (.int .i64 (T.locks.length : Int))) 56 (.int .i64 (i : Int))), effM m0 [(128, ⟨g2, false, .var, 7, [[.own 500000000 0 0 p.routes.length none, .own 500000001 0 0 p.lock.length none, .own 500000002 0 0 p.ice.length none, .own 500000003 0 0 p.rv.length none, .own 500000004 0 0 p.sv.length none, .own 500000005 0 0 p.iv.length none, .int .i64 p.pv]]⟩), (192, ⟨g3, false, .var, 3, [kd T]⟩), (256, ⟨g4, false, .var, 7, [[.nils, .nils, .nils, .nils, .nils, .nils, .int .i64 0]]⟩), (500000000, ⟨0, false, .slc, 1, em nr p.routes⟩), (500000001, ⟨0, false, .slc, 1, em ni p.lock⟩), (500000002, ⟨0, false, .slc, 1, em ni p.ice⟩), (500000003, ⟨0, false, .slc, 1, em ni RV⟩), (500000004, ⟨0, false, .slc, 1, em ni p.sv⟩), (500000005, ⟨0, false, .slc, 1, em ni IV⟩), (3328, ⟨g, false, .slc, 1, em ni r⟩)]⟩) (fun ⟨i, g, r⟩ => T.locks.length - i) ⟨0, _, movedL T⟩ ⟨_, (LessS.weak (LessS.upd (LessS.upd (LessS.upd (LessS.upd (LessS.upd (LessS.upd (LessS.upd (LessS.upd (LessS.nil _) rfl) rfl) rfl) rfl) rfl) rfl) rfl) rfl) _), ⟨Nat.zero_le _, by simp⟩, _, (congrArg (St.mk _) (effM_eq (Has.cons rfl (Has.cons rfl (Has.cons rfl (Has.cons rfl (Has.cons rfl (Has.cons rfl (Has.cons rfl (Has.cons rfl (Has.cons rfl (Has.cons rfl Has.nil))))))))))).symm)⟩ ?_
    rintro ⟨i, g, r⟩ _ ⟨⟨hi4, hr⟩, m0, rfl⟩
    have hrl : r.length = (movedL T).length + i := by rw [hr, List.length_append, List.length_map, List.length_take]; omega
    refine Wp.seqI ?_
    refine Wp.regI I0.mono ?_
    refine GL.bin I0.mono rfl ?_
    refine GL.doneF ?_
    refine goOn ?_
    refine Wp.seqI ?_
    refine Wp.condI rfl (fun h57 => ?_) (fun h57 => ?_)
    ·replace h57 := of_decide_eq_true h57
     refine Wp.skipI ?_
     refine goOn ?_
     refine Wp.seqI ?_
     refine Wp.blockI ?_
     refine Wp.seqI ?_
     refine Wp.regI I0.mono ?_
     refine GL.indexAddrF I0.mono (sz := 3) rfl rfl rfl rfl (by omega) (by (rw [em_len]; omega)) (by intro e he; obtain ⟨a, -, rfl⟩ := List.mem_map.1 he; rfl) (by with_reducible exact Int.toNat_natCast _) ?_
     refine GL.loadFW I0.mono (n := 3) rfl rfl (em_get (by omega)) rfl rfl ?_
     refine GL.alloc I0.mono (cs := [LV.int .i64 0, LV.int .i64 0, LV.int .i64 0]) rfl rfl ?_
     intro g12
     refine GL.storeW I0.mono (n := 3) rfl rfl rfl rfl rfl rfl rfl (by conv => lhs; whnf) rfl rfl rfl ?_
     refine GL.doneF ?_
     refine goOn ?_
     refine Wp.regI I0.mono ?_
     refine GL.move I0.mono (by conv => lhs; whnf) ?_
     refine GL.fieldAddr I0.mono (o := 0) rfl rfl rfl rfl (by conv => lhs; whnf) ?_
     refine GL.load I0.mono rfl rfl rfl rfl (by simp) (by rfl) rfl ?_
     refine GL.buildSlice0 I0.mono (sz := 1) (z := [LV.int .i64 0]) (es := em ni [(T.locks.getD i default).n]) rfl rfl rfl rfl (by decide) (by decide) (by decide) (FrzP.cons (S := []) (T := []) (Frz.pures rfl) rfl (by decide) rfl (FrzP.nil)) rfl ?_
     intro g63
     refine GL.append1 I0.mono (f := ni) (v := (T.locks.getD i default).n) (sz := 1) (z := [.int .i64 0]) rfl rfl rfl rfl rfl (by decide) (Nat.le_of_ble_eq_true rfl) rfl rfl rfl rfl rfl rfl rfl rfl rfl rfl rfl rfl rfl rfl rfl rfl (by omega) ?_
     refine GL.assign I0.mono (by conv => lhs; whnf) ?_
     refine GL.doneF ?_
     refine blockX.normal ?_
     refine goOn ?_
     refine Wp.regI I0.mono ?_
     refine GL.addR I0.mono rfl rfl (by omega) ?_
     refine GL.move I0.mono (by conv => lhs; whnf) ?_
     refine GL.doneF ?_
     refine ⟨⟨i + 1, _, r ++ [(T.locks.getD i default).n]⟩, (by dsimp only; omega), _, (LessS.weak (LessS.upd (LessS.upd (LessS.upd (LessS.upd (LessS.upd (LessS.upd (LessS.upd (LessS.upd (LessS.nil _) rfl) rfl) rfl) rfl) (by rw [List.length_append]; rfl)) rfl) rfl) rfl) _), ⟨by omega, by rw [hr, take_snocG (by omega), List.map_append, List.append_assoc]; rfl⟩, _, (congrArg (St.mk _) (effM_eq (Has.cons rfl (Has.cons rfl (Has.cons rfl (Has.cons rfl (Has.cons rfl (Has.cons rfl (Has.cons rfl (Has.cons rfl (Has.cons rfl (Has.cons rfl Has.nil))))))))))).symm)⟩
    ·replace h57 := of_decide_eq_false h57
     have hr2 : r = movedL T ++ T.locks.map Hold.n := by rw [hr, List.take_of_length_le (by omega)]
     have hrL : r.length ≤ 41000000 := by rw [hr2, List.length_append, List.length_map]; omega
     have hcm0 : CallsM Try.prog 138 [.slo 1 (em ni (sorted r))] none fun res q => res = .slo 1 (em ni (movesP T)) := by
       have := compactI (sorted r) (by rw [sorted_len]; omega)
       rw [hr2] at this ⊢
       exact this
     refine Wp.exitI ?_
     refine thenX.exit ?_
     refine thenX.exit ?_
     refine blockX.out ?_
     refine goOn ?_
     refine Wp.seqI ?_
     rcases r with _ | ⟨x, r0⟩
     ·skip
      refine Wp.regI I0.mono ?_
      refine GL.move I0.mono (by conv => lhs; whnf) ?_
      refine GL.callFl I0.mono rfl (Frz.aggc (by exact Frz.whole rfl rfl rfl rfl rfl) Frz.aggn) sort0_ok (.tup .aggn) rfl rfl ?_
      refine GL.doneF ?_
      (have hcm : CallsM Try.prog 138 [.slo 1 (em ni [])] none (fun res q => res = .slo 1 (em ni (movesP T))) := by rw [sorted_nil] at hcm0; exact hcm0)
      have hml : (movesP T).length ≤ 41000000 := by
        refine Nat.le_trans (compactF_len _) ?_
        rw [sorted_len, List.length_append, List.length_map]
        omega
      refine goOn ?_
      refine Wp.seqI ?_
      refine Wp.seqI ?_
      refine Wp.regI I0.mono ?_
      refine GL.move I0.mono (by conv => lhs; whnf) ?_
      refine GL.lendT I0.mono (es' := em ni (movesP T)) rfl rfl rfl rfl rfl rfl rfl (by rfl) rfl Frz.aggn hcm (em_len _ _) ?_
      intro y69 g69
      refine GL.lenO I0.mono rfl rfl rfl rfl ?_
      refine GL.move I0.mono (by conv => lhs; whnf) ?_
      refine GL.doneF ?_
      refine goOn ?_
      refine Wp.blockI ?_
      refine Wp.loopI I0.mono (α := Nat × List Int) (fun ⟨i, SV⟩ st => (i ≤ (movesP T).length ∧ SV = bump p.sv ((movesP T).take i)) ∧ ∃ m0, st = ⟨(updS (updS (updS (updS (updS (updS (updS (fun _ => LV.undef) 2 (.ref 128 g2 0 0)) 3 (.ref 192 g3 0 0)) 4 (.ref 256 g4 0 0)) 5 (.sl (em ni (movedL T)))) 69 (.own 4416 g69 0 (movesP T).length none)) 70 (.int .i64 ((movesP T).length : Int))) 71 (.int .i64 (i : Int))), effM m0 [(128, ⟨g2, false, .var, 7, [[.own 500000000 0 0 p.routes.length none, .own 500000001 0 0 p.lock.length none, .own 500000002 0 0 p.ice.length none, .own 500000003 0 0 p.rv.length none, .own 500000004 0 0 p.sv.length none, .own 500000005 0 0 p.iv.length none, .int .i64 p.pv]]⟩), (192, ⟨g3, false, .var, 3, [kd T]⟩), (256, ⟨g4, false, .var, 7, [[.nils, .nils, .nils, .nils, .nils, .nils, .int .i64 0]]⟩), (500000000, ⟨0, false, .slc, 1, em nr p.routes⟩), (500000001, ⟨0, false, .slc, 1, em ni p.lock⟩), (500000002, ⟨0, false, .slc, 1, em ni p.ice⟩), (500000003, ⟨0, false, .slc, 1, em ni RV⟩), (500000004, ⟨0, false, .slc, 1, em ni SV⟩), (500000005, ⟨0, false, .slc, 1, em ni IV⟩), (4416, ⟨g69, false, .slc, 1, em ni (movesP T)⟩)]⟩) (fun ⟨i, SV⟩ => (movesP T).length - i) ⟨0, p.sv⟩ ⟨_, (LessS.weak (LessS.upd (LessS.upd (LessS.upd (LessS.upd (LessS.upd (LessS.upd (LessS.upd (LessS.nil _) rfl) rfl) rfl) rfl) rfl) rfl) rfl) _), ⟨Nat.zero_le _, rfl⟩, _, (congrArg (St.mk _) (effM_eq (Has.cons rfl (Has.cons rfl (Has.cons rfl (Has.cons rfl (Has.cons rfl (Has.cons rfl (Has.cons rfl (Has.cons rfl (Has.cons rfl (Has.cons rfl Has.nil))))))))))).symm)⟩ ?_
      rintro ⟨i, SV⟩ _ ⟨⟨hi6, hS0⟩, m0, rfl⟩
      have hS0l : SV.length = p.sv.length := by rw [hS0, bump_len]
      refine Wp.seqI ?_
      refine Wp.regI I0.mono ?_
      refine GL.bin I0.mono rfl ?_
      refine GL.doneF ?_
      refine goOn ?_
      refine Wp.seqI ?_
      refine Wp.condI rfl (fun h72 => ?_) (fun h72 => ?_)
      ·replace h72 := of_decide_eq_true h72
       have hc := b3 _ (getD_mem (l := movesP T) (j := i) (by omega))
       refine Wp.skipI ?_
       refine goOn ?_
       refine Wp.seqI ?_
       refine Wp.blockI ?_
       refine Wp.seqI ?_
       refine Wp.regI I0.mono ?_
       refine GL.indexAddr I0.mono (sz := 1) (j := i) rfl rfl rfl rfl rfl rfl rfl rfl (by omega) (by omega) (by omega) ?_
       refine GL.load I0.mono rfl rfl rfl rfl (by simp) (by exact em_get (by omega)) rfl ?_
       refine GL.assign I0.mono (by conv => lhs; whnf) ?_
       refine GL.doneF ?_
       refine goOn ?_
       refine Wp.regI I0.mono ?_
       refine GL.fieldAddr I0.mono (o := 4) rfl rfl rfl rfl (by conv => lhs; whnf) ?_
       refine GL.load I0.mono rfl rfl rfl rfl (by simp) (by rfl) rfl ?_
       refine GL.move I0.mono (by conv => lhs; whnf) ?_
       refine GL.indexAddr I0.mono (sz := 1) (j := ((movesP T).getD i default).toNat) rfl rfl rfl rfl rfl rfl rfl rfl (by omega) (by omega) (by omega) ?_
       refine GL.load I0.mono rfl rfl rfl rfl (by simp) (by exact em_get (by omega)) rfl ?_
       refine GL.bin I0.mono rfl ?_
       refine GL.indexAddr I0.mono (sz := 1) (j := ((movesP T).getD i default).toNat) rfl rfl rfl rfl rfl rfl rfl rfl (by omega) (by omega) (by omega) ?_
       refine GL.storeS I0.mono (n := 1) rfl rfl rfl rfl rfl rfl (em_get (by omega)) rfl rfl rfl rfl (Nat.le_of_ble_eq_true rfl) rfl (em_set ni _ _ (wadd (SV.getD ((movesP T).getD i default).toNat default) 1)) ?_
       refine GL.doneF ?_
       refine blockX.normal ?_
       refine goOn ?_
       refine Wp.regI I0.mono ?_
       refine GL.addR I0.mono rfl rfl (by omega) ?_
       refine GL.move I0.mono (by conv => lhs; whnf) ?_
       refine GL.doneF ?_
       refine ⟨⟨i + 1, _⟩, (by dsimp only; omega), _, (LessS.weak (LessS.upd (LessS.upd (LessS.upd (LessS.upd (LessS.upd (LessS.upd (LessS.upd (LessS.nil _) rfl) rfl) rfl) rfl) rfl) rfl) rfl) _), ⟨by omega, by rw [bump_snoc _ _ (by omega), ← hS0, bump1]⟩, _, (congrArg (St.mk _) (effM_eq (Has.cons rfl (Has.cons rfl (Has.cons rfl (Has.cons rfl (Has.cons rfl (Has.cons rfl (Has.cons rfl (Has.cons rfl (Has.cons rfl (Has.cons rfl Has.nil))))))))))).symm)⟩
      ·replace h72 := of_decide_eq_false h72
       have hSV : SV = bump p.sv (movesP T) := by rw [hS0, List.take_of_length_le (by omega)]
       have hSl := hS0l
       refine Wp.exitI ?_
       refine thenX.exit ?_
       refine thenX.exit ?_
       refine blockX.out ?_
       refine goOn ?_
       refine Wp.seqI ?_
       refine Wp.seqI ?_
       refine Wp.regI I0.mono ?_
       refine GL.move I0.mono (by conv => lhs; whnf) ?_
       refine GL.lenF I0.mono rfl rfl (em_len _ _) ?_
       refine GL.bin I0.mono rfl ?_
       refine GL.doneF ?_
       refine goOn ?_
       refine Wp.condI rfl (fun h85 => ?_) (fun h85 => ?_)
       ·replace h85 := of_decide_eq_true h85
        refine Wp.regI I0.mono ?_
        refine GL.fieldAddr I0.mono (o := 6) rfl rfl rfl rfl (by conv => lhs; whnf) ?_
        refine GL.load I0.mono rfl rfl rfl rfl (by simp) (by rfl) rfl ?_
        refine GL.bin I0.mono rfl ?_
        refine GL.fieldAddr I0.mono (o := 6) rfl rfl rfl rfl (by conv => lhs; whnf) ?_
        refine GL.store I0.mono (n := 1) rfl rfl rfl rfl rfl rfl rfl rfl rfl rfl (Nat.le_of_ble_eq_true rfl) (by (conv => lhs; simp only [List.take_succ_cons, List.take_zero, List.drop_succ_cons, List.drop_zero, List.nil_append, List.cons_append, List.drop_nil, List.append_nil, List.take_nil, List.set_cons_zero, List.set_cons_succ, Nat.zero_add, kp, kd, kt, kh])) (by (conv => lhs; simp only [List.take_succ_cons, List.take_zero, List.drop_succ_cons, List.drop_zero, List.nil_append, List.cons_append, List.drop_nil, List.append_nil, List.take_nil, List.set_cons_zero, List.set_cons_succ, Nat.zero_add, kp, kd, kt, kh])) ?_
        refine GL.doneF ?_
        refine goOn ?_
        refine Wp.seqI ?_
        refine Wp.regI I0.mono ?_
        refine GL.loadW I0.mono (n := 7) rfl rfl rfl rfl (by simp) (by rfl) rfl rfl ?_
        refine GL.storeW I0.mono (n := 7) rfl rfl rfl rfl rfl rfl rfl (by conv => lhs; whnf) rfl rfl rfl ?_
        refine GL.doneF ?_
        refine goOn ?_
        refine Wp.retI ?_
        refine RetJX.ret ?_
        refine ⟨_, _, _, _, .cons (.cellA (n := 7) rfl rfl rfl (by simp) rfl rfl rfl (Nat.le_of_ble_eq_true rfl)) .nil, (.aggc (by exact Exp.sloW rfl rfl rfl rfl rfl rfl (by exact (em_len _ _).symm)) (.aggc (by exact Exp.sloW rfl rfl rfl rfl rfl rfl (by exact (em_len _ _).symm)) (.aggc (by exact Exp.sloW rfl rfl rfl rfl rfl rfl (by exact (em_len _ _).symm)) (.aggc (by exact Exp.sloW rfl rfl rfl rfl rfl rfl (by (rw [em_len]; omega))) (.aggc (by exact Exp.sloW rfl rfl rfl rfl rfl rfl (by (rw [em_len]; omega))) (.aggc (by exact Exp.sloW rfl rfl rfl rfl rfl rfl (by (rw [em_len]; omega))) (.aggc (by exact Exp.frz (Frz.pure rfl)) .aggn))))))), (by decide), by simp, ?_⟩
        show LV.agg _ = _
        (rw [hRV, hIV, hSV, kpo_count, if_pos (by omega)]; rfl)
       ·replace h85 := of_decide_eq_false h85
        refine Wp.skipI ?_
        refine goOn ?_
        refine Wp.seqI ?_
        refine Wp.regI I0.mono ?_
        refine GL.loadW I0.mono (n := 7) rfl rfl rfl rfl (by simp) (by rfl) rfl rfl ?_
        refine GL.storeW I0.mono (n := 7) rfl rfl rfl rfl rfl rfl rfl (by conv => lhs; whnf) rfl rfl rfl ?_
        refine GL.doneF ?_
        refine goOn ?_
        refine Wp.retI ?_
        refine RetJX.ret ?_
        refine ⟨_, _, _, _, .cons (.cellA (n := 7) rfl rfl rfl (by simp) rfl rfl rfl (Nat.le_of_ble_eq_true rfl)) .nil, (.aggc (by exact Exp.sloW rfl rfl rfl rfl rfl rfl (by exact (em_len _ _).symm)) (.aggc (by exact Exp.sloW rfl rfl rfl rfl rfl rfl (by exact (em_len _ _).symm)) (.aggc (by exact Exp.sloW rfl rfl rfl rfl rfl rfl (by exact (em_len _ _).symm)) (.aggc (by exact Exp.sloW rfl rfl rfl rfl rfl rfl (by (rw [em_len]; omega))) (.aggc (by exact Exp.sloW rfl rfl rfl rfl rfl rfl (by (rw [em_len]; omega))) (.aggc (by exact Exp.sloW rfl rfl rfl rfl rfl rfl (by (rw [em_len]; omega))) (.aggc (by exact Exp.frz (Frz.pure rfl)) .aggn))))))), (by decide), by simp, ?_⟩
        show LV.agg _ = _
        (rw [hRV, hIV, hSV, kpo_count, if_neg (by omega)])
     ·skip
      refine Wp.regI I0.mono ?_
      refine GL.move I0.mono (by conv => lhs; whnf) ?_
      refine GL.lendS I0.mono (T := []) (es' := em ni (sorted (x :: r0))) rfl rfl rfl rfl rfl rfl rfl (by rw [em_len]) (by simp) rfl (by rw [em_len, em_len, sorted_len]) Frz.aggn (by decide) (sort_ok (x :: r0) (by omega)) ?_
      refine GL.doneF ?_
      have hcm := hcm0
      have hml : (movesP T).length ≤ 41000000 := by
        refine Nat.le_trans (compactF_len _) ?_
        rw [sorted_len, List.length_append, List.length_map]
        omega
      refine goOn ?_
      refine Wp.seqI ?_
      refine Wp.seqI ?_
      refine Wp.regI I0.mono ?_
      refine GL.move I0.mono (by conv => lhs; whnf) ?_
      refine GL.lendT I0.mono (es' := em ni (movesP T)) rfl rfl rfl rfl rfl rfl rfl (by (rw [em_len, sorted_len]; done)) rfl Frz.aggn hcm (em_len _ _) ?_
      intro y69 g69
      refine GL.lenO I0.mono rfl rfl rfl rfl ?_
      refine GL.move I0.mono (by conv => lhs; whnf) ?_
      refine GL.doneF ?_
      refine goOn ?_
      refine Wp.blockI ?_
      refine Wp.loopI I0.mono (α := Nat × List Int) (fun ⟨i, SV⟩ st => (i ≤ (movesP T).length ∧ SV = bump p.sv ((movesP T).take i)) ∧ ∃ m0, st = ⟨(updS (updS (updS (updS (updS (updS (updS (fun _ => LV.undef) 2 (.ref 128 g2 0 0)) 3 (.ref 192 g3 0 0)) 4 (.ref 256 g4 0 0)) 5 (.sl (em ni (movedL T)))) 69 (.own 4416 g69 0 (movesP T).length none)) 70 (.int .i64 ((movesP T).length : Int))) 71 (.int .i64 (i : Int))), effM m0 [(128, ⟨g2, false, .var, 7, [[.own 500000000 0 0 p.routes.length none, .own 500000001 0 0 p.lock.length none, .own 500000002 0 0 p.ice.length none, .own 500000003 0 0 p.rv.length none, .own 500000004 0 0 p.sv.length none, .own 500000005 0 0 p.iv.length none, .int .i64 p.pv]]⟩), (192, ⟨g3, false, .var, 3, [kd T]⟩), (256, ⟨g4, false, .var, 7, [[.nils, .nils, .nils, .nils, .nils, .nils, .int .i64 0]]⟩), (500000000, ⟨0, false, .slc, 1, em nr p.routes⟩), (500000001, ⟨0, false, .slc, 1, em ni p.lock⟩), (500000002, ⟨0, false, .slc, 1, em ni p.ice⟩), (500000003, ⟨0, false, .slc, 1, em ni RV⟩), (500000004, ⟨0, false, .slc, 1, em ni SV⟩), (500000005, ⟨0, false, .slc, 1, em ni IV⟩), (4416, ⟨g69, false, .slc, 1, em ni (movesP T)⟩)]⟩) (fun ⟨i, SV⟩ => (movesP T).length - i) ⟨0, p.sv⟩ ⟨_, (LessS.weak (LessS.upd (LessS.upd (LessS.upd (LessS.upd (LessS.upd (LessS.upd (LessS.upd (LessS.nil _) rfl) rfl) rfl) rfl) rfl) rfl) rfl) _), ⟨Nat.zero_le _, rfl⟩, _, (congrArg (St.mk _) (effM_eq (Has.cons rfl (Has.cons rfl (Has.cons rfl (Has.cons rfl (Has.cons rfl (Has.cons rfl (Has.cons rfl (Has.cons rfl (Has.cons rfl (Has.cons rfl Has.nil))))))))))).symm)⟩ ?_
      rintro ⟨i, SV⟩ _ ⟨⟨hi6, hS0⟩, m0, rfl⟩
      have hS0l : SV.length = p.sv.length := by rw [hS0, bump_len]
      refine Wp.seqI ?_
      refine Wp.regI I0.mono ?_
      refine GL.bin I0.mono rfl ?_
      refine GL.doneF ?_
      refine goOn ?_
      refine Wp.seqI ?_
      refine Wp.condI rfl (fun h72 => ?_) (fun h72 => ?_)
      ·replace h72 := of_decide_eq_true h72
       have hc := b3 _ (getD_mem (l := movesP T) (j := i) (by omega))
       refine Wp.skipI ?_
       refine goOn ?_
       refine Wp.seqI ?_
       refine Wp.blockI ?_
       refine Wp.seqI ?_
       refine Wp.regI I0.mono ?_
       refine GL.indexAddr I0.mono (sz := 1) (j := i) rfl rfl rfl rfl rfl rfl rfl rfl (by omega) (by omega) (by omega) ?_
       refine GL.load I0.mono rfl rfl rfl rfl (by simp) (by exact em_get (by omega)) rfl ?_
       refine GL.assign I0.mono (by conv => lhs; whnf) ?_
       refine GL.doneF ?_
       refine goOn ?_
       refine Wp.regI I0.mono ?_
       refine GL.fieldAddr I0.mono (o := 4) rfl rfl rfl rfl (by conv => lhs; whnf) ?_
       refine GL.load I0.mono rfl rfl rfl rfl (by simp) (by rfl) rfl ?_
       refine GL.move I0.mono (by conv => lhs; whnf) ?_
       refine GL.indexAddr I0.mono (sz := 1) (j := ((movesP T).getD i default).toNat) rfl rfl rfl rfl rfl rfl rfl rfl (by omega) (by omega) (by omega) ?_
       refine GL.load I0.mono rfl rfl rfl rfl (by simp) (by exact em_get (by omega)) rfl ?_
       refine GL.bin I0.mono rfl ?_
       refine GL.indexAddr I0.mono (sz := 1) (j := ((movesP T).getD i default).toNat) rfl rfl rfl rfl rfl rfl rfl rfl (by omega) (by omega) (by omega) ?_
       refine GL.storeS I0.mono (n := 1) rfl rfl rfl rfl rfl rfl (em_get (by omega)) rfl rfl rfl rfl (Nat.le_of_ble_eq_true rfl) rfl (em_set ni _ _ (wadd (SV.getD ((movesP T).getD i default).toNat default) 1)) ?_
       refine GL.doneF ?_
       refine blockX.normal ?_
       refine goOn ?_
       refine Wp.regI I0.mono ?_
       refine GL.addR I0.mono rfl rfl (by omega) ?_
       refine GL.move I0.mono (by conv => lhs; whnf) ?_
       refine GL.doneF ?_
       refine ⟨⟨i + 1, _⟩, (by dsimp only; omega), _, (LessS.weak (LessS.upd (LessS.upd (LessS.upd (LessS.upd (LessS.upd (LessS.upd (LessS.upd (LessS.nil _) rfl) rfl) rfl) rfl) rfl) rfl) rfl) _), ⟨by omega, by rw [bump_snoc _ _ (by omega), ← hS0, bump1]⟩, _, (congrArg (St.mk _) (effM_eq (Has.cons rfl (Has.cons rfl (Has.cons rfl (Has.cons rfl (Has.cons rfl (Has.cons rfl (Has.cons rfl (Has.cons rfl (Has.cons rfl (Has.cons rfl Has.nil))))))))))).symm)⟩
      ·replace h72 := of_decide_eq_false h72
       have hSV : SV = bump p.sv (movesP T) := by rw [hS0, List.take_of_length_le (by omega)]
       have hSl := hS0l
       refine Wp.exitI ?_
       refine thenX.exit ?_
       refine thenX.exit ?_
       refine blockX.out ?_
       refine goOn ?_
       refine Wp.seqI ?_
       refine Wp.seqI ?_
       refine Wp.regI I0.mono ?_
       refine GL.move I0.mono (by conv => lhs; whnf) ?_
       refine GL.lenF I0.mono rfl rfl (em_len _ _) ?_
       refine GL.bin I0.mono rfl ?_
       refine GL.doneF ?_
       refine goOn ?_
       refine Wp.condI rfl (fun h85 => ?_) (fun h85 => ?_)
       ·replace h85 := of_decide_eq_true h85
        refine Wp.regI I0.mono ?_
        refine GL.fieldAddr I0.mono (o := 6) rfl rfl rfl rfl (by conv => lhs; whnf) ?_
        refine GL.load I0.mono rfl rfl rfl rfl (by simp) (by rfl) rfl ?_
        refine GL.bin I0.mono rfl ?_
        refine GL.fieldAddr I0.mono (o := 6) rfl rfl rfl rfl (by conv => lhs; whnf) ?_
        refine GL.store I0.mono (n := 1) rfl rfl rfl rfl rfl rfl rfl rfl rfl rfl (Nat.le_of_ble_eq_true rfl) (by (conv => lhs; simp only [List.take_succ_cons, List.take_zero, List.drop_succ_cons, List.drop_zero, List.nil_append, List.cons_append, List.drop_nil, List.append_nil, List.take_nil, List.set_cons_zero, List.set_cons_succ, Nat.zero_add, kp, kd, kt, kh])) (by (conv => lhs; simp only [List.take_succ_cons, List.take_zero, List.drop_succ_cons, List.drop_zero, List.nil_append, List.cons_append, List.drop_nil, List.append_nil, List.take_nil, List.set_cons_zero, List.set_cons_succ, Nat.zero_add, kp, kd, kt, kh])) ?_
        refine GL.doneF ?_
        refine goOn ?_
        refine Wp.seqI ?_
        refine Wp.regI I0.mono ?_
        refine GL.loadW I0.mono (n := 7) rfl rfl rfl rfl (by simp) (by rfl) rfl rfl ?_
        refine GL.storeW I0.mono (n := 7) rfl rfl rfl rfl rfl rfl rfl (by conv => lhs; whnf) rfl rfl rfl ?_
        refine GL.doneF ?_
        refine goOn ?_
        refine Wp.retI ?_
        refine RetJX.ret ?_
        refine ⟨_, _, _, _, .cons (.cellA (n := 7) rfl rfl rfl (by simp) rfl rfl rfl (Nat.le_of_ble_eq_true rfl)) .nil, (.aggc (by exact Exp.sloW rfl rfl rfl rfl rfl rfl (by exact (em_len _ _).symm)) (.aggc (by exact Exp.sloW rfl rfl rfl rfl rfl rfl (by exact (em_len _ _).symm)) (.aggc (by exact Exp.sloW rfl rfl rfl rfl rfl rfl (by exact (em_len _ _).symm)) (.aggc (by exact Exp.sloW rfl rfl rfl rfl rfl rfl (by (rw [em_len]; omega))) (.aggc (by exact Exp.sloW rfl rfl rfl rfl rfl rfl (by (rw [em_len]; omega))) (.aggc (by exact Exp.sloW rfl rfl rfl rfl rfl rfl (by (rw [em_len]; omega))) (.aggc (by exact Exp.frz (Frz.pure rfl)) .aggn))))))), (by decide), by simp, ?_⟩
        show LV.agg _ = _
        (rw [hRV, hIV, hSV, kpo_count, if_pos (by omega)]; rfl)
       ·replace h85 := of_decide_eq_false h85
        refine Wp.skipI ?_
        refine goOn ?_
        refine Wp.seqI ?_
        refine Wp.regI I0.mono ?_
        refine GL.loadW I0.mono (n := 7) rfl rfl rfl rfl (by simp) (by rfl) rfl rfl ?_
        refine GL.storeW I0.mono (n := 7) rfl rfl rfl rfl rfl rfl rfl (by conv => lhs; whnf) rfl rfl rfl ?_
        refine GL.doneF ?_
        refine goOn ?_
        refine Wp.retI ?_
        refine RetJX.ret ?_
        refine ⟨_, _, _, _, .cons (.cellA (n := 7) rfl rfl rfl (by simp) rfl rfl rfl (Nat.le_of_ble_eq_true rfl)) .nil, (.aggc (by exact Exp.sloW rfl rfl rfl rfl rfl rfl (by exact (em_len _ _).symm)) (.aggc (by exact Exp.sloW rfl rfl rfl rfl rfl rfl (by exact (em_len _ _).symm)) (.aggc (by exact Exp.sloW rfl rfl rfl rfl rfl rfl (by exact (em_len _ _).symm)) (.aggc (by exact Exp.sloW rfl rfl rfl rfl rfl rfl (by (rw [em_len]; omega))) (.aggc (by exact Exp.sloW rfl rfl rfl rfl rfl rfl (by (rw [em_len]; omega))) (.aggc (by exact Exp.sloW rfl rfl rfl rfl rfl rfl (by (rw [em_len]; omega))) (.aggc (by exact Exp.frz (Frz.pure rfl)) .aggn))))))), (by decide), by simp, ?_⟩
        show LV.agg _ = _
        (rw [hRV, hIV, hSV, kpo_count, if_neg (by omega)])

def applyP (p : Plan) (d T : Delta) : Plan × Int :=
  if checkD d = true ∨ thereB p d = false then (zeroP, 1) else if onceB (doneP p d).routes = false then (zeroP, 1) else if asB p d = false then (zeroP, 15) else (countP (doneP p d) T, 0)
theorem okP_done {p : Plan} (hp : OkP p) {d : Delta} (hd : OkD d) : OkP (doneP p d) := by
  obtain ⟨p1, p2, p3, p4, p5, p6, p7⟩ := hp
  exact ⟨by show (setR _ _).length ≤ _; rw [setR_len]; exact p1, setR_each p2 d.turns fun t ht => (hd.2.2.2 t ht).2, by show (setLs _ _).length ≤ _; rw [setLs_len]; exact p3, by show (setLs _ _).length ≤ _; rw [setLs_len]; exact p4, p5, p6, p7⟩
theorem ck0 {b : Bool} (h : (if b then (1 : Int) else 0) = 0) : b = false := by
  cases b
  · rfl
  · cases h
theorem ck1 {b : Bool} (h : ¬ (if b then (1 : Int) else 0) = 0) : b = true := by
  cases b
  · exact absurd rfl h
  · rfl

set_option maxRecDepth 100000 in
set_option maxHeartbeats 4000000 in
theorem apply_ok (p : Plan) (hp : OkP p) (d T : Delta) (hd : OkD d) (hT : OkD T) (he : tidyD d = T) (hw : p.routes.length ≤ p.ice.length) (hin : checkD d = false → thereB p d = true → onceB (doneP p d).routes = true → asB p d = true → InB (doneP p d) T) : CallsV Try.prog 40 [.agg (kp p), .agg (kd d)] (.tup [kpo (applyP p d T).1, .int .i64 (applyP p d T).2]) := by
  refine CallsR.intro (I0.sound _) mix Try.func40 rfl rfl (by simp [Try.f40]) (by kernel_rfl) (nb := 0) ?_
  unfold Try.f40
  refine Wp.seqI ?_
  refine Wp.regI I0.mono ?_
  refine GL.box I0.mono (by conv => lhs; whnf) rfl (n := 7) rfl rfl ?_
  intro g2
  refine GL.box I0.mono (by conv => lhs; whnf) rfl (n := 3) rfl rfl ?_
  intro g3
  refine GL.alloc I0.mono (cs := [LV.nils, LV.nils, LV.nils, LV.nils, LV.nils, LV.nils, LV.int .i64 0]) rfl rfl ?_
  intro g4
  refine GL.assign I0.mono (by conv => lhs; whnf) ?_
  refine GL.doneF ?_
  refine goOn ?_
  refine Wp.seqI ?_
  refine Wp.seqI ?_
  refine Wp.regI I0.mono ?_
  refine GL.loadW I0.mono (n := 3) rfl rfl rfl rfl (by simp) rfl rfl rfl ?_
  refine GL.call0 I0.mono rfl (Frz.aggc (by exact Frz.pures rfl) (Frz.aggn)) (check_ok d hd) rfl rfl (fun _ => rfl) ?_
  refine GL.bin I0.mono rfl ?_
  refine GL.move I0.mono (by conv => lhs; whnf) ?_
  refine GL.splitAt 10 rfl (fun h10 => ?_) (fun h10 => ?_)
  ·rw [h10]
   replace h10 := bne_true h10
   have hck := ck1 h10
   refine GL.guardF rfl ?_
   refine GL.guardF rfl ?_
   refine GL.guardF rfl ?_
   refine GL.guardF rfl ?_
   refine GL.pick I0.mono rfl (by conv => lhs; whnf) ?_
   refine GL.doneF ?_
   refine goOn ?_
   refine Wp.condT rfl ?_
   refine Wp.seqI ?_
   refine Wp.regI I0.mono ?_
   refine GL.buildS I0.mono (z := [LV.nils, LV.nils, LV.nils, LV.nils, LV.nils, LV.nils, LV.int .i64 0]) (cs := [_, _, _, _, _, _, _]) (n := 7) rfl rfl rfl (EvS.nil) rfl rfl ?_
   refine GL.storeW I0.mono (n := 7) rfl rfl rfl rfl rfl rfl rfl (by conv => lhs; whnf) rfl rfl rfl ?_
   refine GL.assign I0.mono (by conv => lhs; whnf) ?_
   refine GL.doneF ?_
   refine goOn ?_
   refine Wp.retI ?_
   refine thenX.ret ?_
   refine RetX.ret ?_
   refine ⟨_, _, _, _, .cons (.cellA (n := 7) rfl rfl rfl (by simp) rfl rfl rfl (Nat.le_of_ble_eq_true rfl)) (.cons (.tmp rfl) .nil), .tup (.aggc (.aggc (by exact Exp.nils (sz := 1)) (.aggc (by exact Exp.nils (sz := 1)) (.aggc (by exact Exp.nils (sz := 1)) (.aggc (by exact Exp.nils (sz := 1)) (.aggc (by exact Exp.nils (sz := 1)) (.aggc (by exact Exp.nils (sz := 1)) (.aggc (by exact Exp.frz (Frz.pure rfl)) .aggn))))))) (.aggc (.frz (.pure rfl)) .aggn)), (by decide), by simp, ?_⟩
   show LV.tup _ = LV.tup _
   first
   | (rw [applyP, if_pos (Or.inl hck)]; first | done | rfl)
   | (rw [applyP, if_pos (Or.inr (nf h15))]; first | done | rfl)
   | (rw [applyP, if_neg (show ¬ (checkD d = true ∨ thereB p d = false) by rw [hck, ht]; simp), if_pos (nf h20)]; first | done | rfl)
   | (rw [applyP, if_neg (show ¬ (checkD d = true ∨ thereB p d = false) by rw [hck, ht]; simp), if_neg (show ¬ onceB (doneP p d).routes = false by rw [hon]; simp), if_pos (nf h26)]; first | done | rfl)
   | (rw [applyP, if_neg (show ¬ (checkD d = true ∨ thereB p d = false) by rw [hck, ht]; simp), if_neg (show ¬ onceB (doneP p d).routes = false by rw [hon]; simp), if_neg (show ¬ asB p d = false by rw [has]; simp)]; first | done | rfl)
  
  ·rw [h10]
   replace h10 := bne_false h10
   have hck := ck0 h10
   refine GL.guardT rfl ?_
   refine GL.loadW I0.mono (n := 7) rfl rfl rfl rfl (by simp) rfl rfl rfl ?_
   refine GL.guardT rfl ?_
   refine GL.loadW I0.mono (n := 3) rfl rfl rfl rfl (by simp) rfl rfl rfl ?_
   refine GL.guardT rfl ?_
   refine GL.call0 I0.mono rfl (Frz.aggc (by exact Frz.pures rfl) (Frz.aggc (by exact Frz.pures rfl) (Frz.aggn))) (there_ok p hp d hd) rfl rfl (fun _ => rfl) ?_
   refine GL.guardT rfl ?_
   refine GL.un I0.mono rfl ?_
   refine GL.pick I0.mono rfl (by conv => lhs; whnf) ?_
   refine GL.doneF ?_
   refine goOn ?_
   refine Wp.condI rfl (fun h15 => ?_) (fun h15 => ?_)
   ·skip
    refine Wp.seqI ?_
    refine Wp.regI I0.mono ?_
    refine GL.buildS I0.mono (z := [LV.nils, LV.nils, LV.nils, LV.nils, LV.nils, LV.nils, LV.int .i64 0]) (cs := [_, _, _, _, _, _, _]) (n := 7) rfl rfl rfl (EvS.nil) rfl rfl ?_
    refine GL.storeW I0.mono (n := 7) rfl rfl rfl rfl rfl rfl rfl (by conv => lhs; whnf) rfl rfl rfl ?_
    refine GL.assign I0.mono (by conv => lhs; whnf) ?_
    refine GL.doneF ?_
    refine goOn ?_
    refine Wp.retI ?_
    refine thenX.ret ?_
    refine RetX.ret ?_
    refine ⟨_, _, _, _, .cons (.cellA (n := 7) rfl rfl rfl (by simp) rfl rfl rfl (Nat.le_of_ble_eq_true rfl)) (.cons (.tmp rfl) .nil), .tup (.aggc (.aggc (by exact Exp.nils (sz := 1)) (.aggc (by exact Exp.nils (sz := 1)) (.aggc (by exact Exp.nils (sz := 1)) (.aggc (by exact Exp.nils (sz := 1)) (.aggc (by exact Exp.nils (sz := 1)) (.aggc (by exact Exp.nils (sz := 1)) (.aggc (by exact Exp.frz (Frz.pure rfl)) .aggn))))))) (.aggc (.frz (.pure rfl)) .aggn)), (by decide), by simp, ?_⟩
    show LV.tup _ = LV.tup _
    first
    | (rw [applyP, if_pos (Or.inl hck)]; first | done | rfl)
    | (rw [applyP, if_pos (Or.inr (nf h15))]; first | done | rfl)
    | (rw [applyP, if_neg (show ¬ (checkD d = true ∨ thereB p d = false) by rw [hck, ht]; simp), if_pos (nf h20)]; first | done | rfl)
    | (rw [applyP, if_neg (show ¬ (checkD d = true ∨ thereB p d = false) by rw [hck, ht]; simp), if_neg (show ¬ onceB (doneP p d).routes = false by rw [hon]; simp), if_pos (nf h26)]; first | done | rfl)
    | (rw [applyP, if_neg (show ¬ (checkD d = true ∨ thereB p d = false) by rw [hck, ht]; simp), if_neg (show ¬ onceB (doneP p d).routes = false by rw [hon]; simp), if_neg (show ¬ asB p d = false by rw [has]; simp)]; first | done | rfl)
   
   ·skip
    have ht := nt h15
    refine Wp.skipI ?_
    refine goOn ?_
    refine Wp.seqI ?_
    refine Wp.regI I0.mono ?_
    refine GL.loadW I0.mono (n := 7) rfl rfl rfl rfl (by simp) rfl rfl rfl ?_
    refine GL.loadW I0.mono (n := 3) rfl rfl rfl rfl (by simp) rfl rfl rfl ?_
    refine GL.callN I0.mono rfl (Frz.aggc (Frz.pures rfl) (Frz.aggc (Frz.pures rfl) Frz.aggn)) (done_ok p hp d hd ht hw) rfl rfl (imp_kpo _ _ _) ?_
    refine GL.alloc I0.mono (cs := [LV.nils, LV.nils, LV.nils, LV.nils, LV.nils, LV.nils, LV.int .i64 0]) rfl rfl ?_
    intro g6
    refine GL.storeW I0.mono (n := 7) rfl rfl rfl rfl rfl rfl rfl (by conv => lhs; whnf) rfl rfl rfl ?_
    refine GL.doneF ?_
    refine goOn ?_
    refine Wp.seqI ?_
    refine Wp.blockI ?_
    refine Wp.seqI ?_
    refine Wp.regI I0.mono ?_
    refine GL.fieldAddr I0.mono (o := 0) rfl rfl rfl rfl (by conv => lhs; whnf) ?_
    refine GL.load I0.mono rfl rfl rfl rfl (by simp) rfl rfl ?_
    refine GL.callFl I0.mono rfl (Frz.aggc (Frz.whole rfl rfl rfl rfl (em_len _ _)) Frz.aggn) (once_ok _ (okP_done hp hd).routes (okP_done hp hd).each) (.sca rfl) rfl rfl ?_
    refine GL.un I0.mono rfl ?_
    refine GL.assign I0.mono (by conv => lhs; whnf) ?_
    refine GL.doneF ?_
    refine goOn ?_
    refine Wp.condI rfl (fun h20 => ?_) (fun h20 => ?_)
    ·skip
     refine Wp.seqI ?_
     refine Wp.regI I0.mono ?_
     refine GL.buildS I0.mono (z := [LV.nils, LV.nils, LV.nils, LV.nils, LV.nils, LV.nils, LV.int .i64 0]) (cs := [_, _, _, _, _, _, _]) (n := 7) rfl rfl rfl (EvS.nil) rfl rfl ?_
     refine GL.storeW I0.mono (n := 7) rfl rfl rfl rfl rfl rfl rfl (by conv => lhs; whnf) rfl rfl rfl ?_
     refine GL.assign I0.mono (by conv => lhs; whnf) ?_
     refine GL.doneF ?_
     refine goOn ?_
     refine Wp.retI ?_
     refine blockX.ret ?_
     refine thenX.ret ?_
     refine RetX.ret ?_
     refine ⟨_, _, _, _, .cons (.cellA (n := 7) rfl rfl rfl (by simp) rfl rfl rfl (Nat.le_of_ble_eq_true rfl)) (.cons (.tmp rfl) .nil), .tup (.aggc (.aggc (by exact Exp.nils (sz := 1)) (.aggc (by exact Exp.nils (sz := 1)) (.aggc (by exact Exp.nils (sz := 1)) (.aggc (by exact Exp.nils (sz := 1)) (.aggc (by exact Exp.nils (sz := 1)) (.aggc (by exact Exp.nils (sz := 1)) (.aggc (by exact Exp.frz (Frz.pure rfl)) .aggn))))))) (.aggc (.frz (.pure rfl)) .aggn)), (by decide), by simp, ?_⟩
     show LV.tup _ = LV.tup _
     first
     | (rw [applyP, if_pos (Or.inl hck)]; first | done | rfl)
     | (rw [applyP, if_pos (Or.inr (nf h15))]; first | done | rfl)
     | (rw [applyP, if_neg (show ¬ (checkD d = true ∨ thereB p d = false) by rw [hck, ht]; simp), if_pos (nf h20)]; first | done | rfl)
     | (rw [applyP, if_neg (show ¬ (checkD d = true ∨ thereB p d = false) by rw [hck, ht]; simp), if_neg (show ¬ onceB (doneP p d).routes = false by rw [hon]; simp), if_pos (nf h26)]; first | done | rfl)
     | (rw [applyP, if_neg (show ¬ (checkD d = true ∨ thereB p d = false) by rw [hck, ht]; simp), if_neg (show ¬ onceB (doneP p d).routes = false by rw [hon]; simp), if_neg (show ¬ asB p d = false by rw [has]; simp)]; first | done | rfl)
    
    ·skip
     have hon := nt h20
     refine Wp.seqI ?_
     refine Wp.regI I0.mono ?_
     refine GL.loadW I0.mono (n := 7) rfl rfl rfl rfl (by simp) rfl rfl rfl ?_
     refine GL.loadW I0.mono (n := 3) rfl rfl rfl rfl (by simp) rfl rfl rfl ?_
     refine GL.call0 I0.mono rfl (Frz.aggc (by exact Frz.pures rfl) (Frz.aggc (by exact Frz.pures rfl) (Frz.aggn))) (as_ok p hp d hd ht hw) rfl rfl (fun _ => rfl) ?_
     refine GL.un I0.mono rfl ?_
     refine GL.assign I0.mono (by conv => lhs; whnf) ?_
     refine GL.doneF ?_
     refine goOn ?_
     refine Wp.condI rfl (fun h26 => ?_) (fun h26 => ?_)
     ·skip
      refine Wp.seqI ?_
      refine Wp.regI I0.mono ?_
      refine GL.buildS I0.mono (z := [LV.nils, LV.nils, LV.nils, LV.nils, LV.nils, LV.nils, LV.int .i64 0]) (cs := [_, _, _, _, _, _, _]) (n := 7) rfl rfl rfl (EvS.nil) rfl rfl ?_
      refine GL.storeW I0.mono (n := 7) rfl rfl rfl rfl rfl rfl rfl (by conv => lhs; whnf) rfl rfl rfl ?_
      refine GL.assign I0.mono (by conv => lhs; whnf) ?_
      refine GL.doneF ?_
      refine goOn ?_
      refine Wp.retI ?_
      refine blockX.ret ?_
      refine thenX.ret ?_
      refine RetX.ret ?_
      refine ⟨_, _, _, _, .cons (.cellA (n := 7) rfl rfl rfl (by simp) rfl rfl rfl (Nat.le_of_ble_eq_true rfl)) (.cons (.tmp rfl) .nil), .tup (.aggc (.aggc (by exact Exp.nils (sz := 1)) (.aggc (by exact Exp.nils (sz := 1)) (.aggc (by exact Exp.nils (sz := 1)) (.aggc (by exact Exp.nils (sz := 1)) (.aggc (by exact Exp.nils (sz := 1)) (.aggc (by exact Exp.nils (sz := 1)) (.aggc (by exact Exp.frz (Frz.pure rfl)) .aggn))))))) (.aggc (.frz (.pure rfl)) .aggn)), (by decide), by simp, ?_⟩
      show LV.tup _ = LV.tup _
      first
      | (rw [applyP, if_pos (Or.inl hck)]; first | done | rfl)
      | (rw [applyP, if_pos (Or.inr (nf h15))]; first | done | rfl)
      | (rw [applyP, if_neg (show ¬ (checkD d = true ∨ thereB p d = false) by rw [hck, ht]; simp), if_pos (nf h20)]; first | done | rfl)
      | (rw [applyP, if_neg (show ¬ (checkD d = true ∨ thereB p d = false) by rw [hck, ht]; simp), if_neg (show ¬ onceB (doneP p d).routes = false by rw [hon]; simp), if_pos (nf h26)]; first | done | rfl)
      | (rw [applyP, if_neg (show ¬ (checkD d = true ∨ thereB p d = false) by rw [hck, ht]; simp), if_neg (show ¬ onceB (doneP p d).routes = false by rw [hon]; simp), if_neg (show ¬ asB p d = false by rw [has]; simp)]; first | done | rfl)
     
     ·skip
      have has := nt h26
      refine Wp.skipI ?_
      refine blockX.normal ?_
      refine goOn ?_
      refine Wp.seqI ?_
      refine Wp.regI I0.mono ?_
      refine GL.loadW I0.mono (n := 7) rfl rfl rfl rfl (by simp) rfl rfl rfl ?_
      refine GL.loadW I0.mono (n := 3) rfl rfl rfl rfl (by simp) rfl rfl rfl ?_
      refine GL.lend I0.mono (args := [kpo (doneP p d), .agg (kd d)]) rfl (by exact .aggc ((.aggc (.sloW rfl rfl rfl rfl rfl rfl (em_len _ _).symm) (.aggc (.sloW rfl rfl rfl rfl rfl rfl (em_len _ _).symm) (.aggc (.sloW rfl rfl rfl rfl rfl rfl (em_len _ _).symm) (.aggc (.sloW rfl rfl rfl rfl rfl rfl (em_len _ _).symm) (.aggc (.sloW rfl rfl rfl rfl rfl rfl (em_len _ _).symm) (.aggc (.sloW rfl rfl rfl rfl rfl rfl (em_len _ _).symm) (.aggc (.frz (.pure rfl)) .aggn)))))))) (.aggc (.frz (.pures rfl)) .aggn)) (by decide) (by simp) (count_ok (doneP p d) (okP_done hp hd) d T hd hT he (hin hck ht hon has)) rfl rfl fun res q hrq => ?_
      subst hrq
      refine ⟨rfl, ?_⟩
      rw [imp_kpo]
      refine GL.storeW I0.mono (n := 7) rfl rfl rfl rfl rfl rfl rfl (by conv => lhs; whnf) rfl rfl rfl ?_
      refine GL.assign I0.mono (by conv => lhs; whnf) ?_
      refine GL.doneF ?_
      refine goOn ?_
      refine Wp.retI ?_
      refine RetX.ret ?_
      refine ⟨_, _, _, _, .cons (.cellA (n := 7) rfl rfl rfl (by simp) rfl rfl rfl (Nat.le_of_ble_eq_true rfl)) (.cons (.tmp rfl) .nil), .tup (.aggc (.aggc (by exact Exp.sloW rfl rfl rfl rfl rfl rfl (em_len _ _).symm) (.aggc (by exact Exp.sloW rfl rfl rfl rfl rfl rfl (em_len _ _).symm) (.aggc (by exact Exp.sloW rfl rfl rfl rfl rfl rfl (em_len _ _).symm) (.aggc (by exact Exp.sloW rfl rfl rfl rfl rfl rfl (em_len _ _).symm) (.aggc (by exact Exp.sloW rfl rfl rfl rfl rfl rfl (em_len _ _).symm) (.aggc (by exact Exp.sloW rfl rfl rfl rfl rfl rfl (em_len _ _).symm) (.aggc (by exact Exp.frz (Frz.pure rfl)) .aggn))))))) (.aggc (.frz (.pure rfl)) .aggn)), (by decide), by simp, ?_⟩
      show LV.tup _ = LV.tup _
      first
      | (rw [applyP, if_pos (Or.inl hck)]; first | done | rfl)
      | (rw [applyP, if_pos (Or.inr (nf h15))]; first | done | rfl)
      | (rw [applyP, if_neg (show ¬ (checkD d = true ∨ thereB p d = false) by rw [hck, ht]; simp), if_pos (nf h20)]; first | done | rfl)
      | (rw [applyP, if_neg (show ¬ (checkD d = true ∨ thereB p d = false) by rw [hck, ht]; simp), if_neg (show ¬ onceB (doneP p d).routes = false by rw [hon]; simp), if_pos (nf h26)]; first | done | rfl)
      | (rw [applyP, if_neg (show ¬ (checkD d = true ∨ thereB p d = false) by rw [hck, ht]; simp), if_neg (show ¬ onceB (doneP p d).routes = false by rw [hon]; simp), if_neg (show ¬ asB p d = false by rw [has]; simp)]; first | done | rfl)
     

end Go.Proofs.Ytffnlhjdlhpmjaa
