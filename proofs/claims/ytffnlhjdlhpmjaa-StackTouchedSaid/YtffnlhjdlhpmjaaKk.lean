/- Equal neighbours left out, walked. -/
import Derived.Test.YtffnlhjdlhpmjaaProg
import Derived.Test.YtffnlhjdlhpmjaaKj
import Derived.KernelRfl
set_option linter.all false
namespace Go.Proofs.Ytffnlhjdlhpmjaa
open Go.Proofs Mv
def addLast {α : Type} [DecidableEq α] (acc : List α) (x : α) : List α := if acc.getLast? = some x then acc else acc ++ [x]
def compactF {α : Type} [DecidableEq α] (l : List α) : List α := l.foldl addLast []
section
variable {α : Type} [DecidableEq α] [Inhabited α] {l : List α}
theorem comp_succ {k : Nat} (h : k < l.length) : compactF (l.take (k + 1)) = addLast (compactF (l.take k)) (l.getD k default) := by
  rw [take_snocG h, compactF, List.foldl_append]
  rfl
theorem comp_last {k : Nat} (h0 : 0 < k) (h : k ≤ l.length) : (compactF (l.take k)).getLast? = some (l.getD (k - 1) default) := by
  obtain ⟨j, rfl⟩ : ∃ j, k = j + 1 := ⟨k - 1, by omega⟩
  rw [comp_succ (by omega), addLast, Nat.add_sub_cancel]
  split
  · assumption
  · simp
theorem comp_eq {k : Nat} (h0 : 0 < k) (h : k < l.length) (e : l.getD k default = l.getD (k - 1) default) : compactF (l.take (k + 1)) = compactF (l.take k) := by
  rw [comp_succ h, addLast, comp_last h0 (by omega), e, if_pos rfl]
theorem comp_ne {k : Nat} (h0 : 0 < k) (h : k < l.length) (e : l.getD k default ≠ l.getD (k - 1) default) : compactF (l.take (k + 1)) = compactF (l.take k) ++ [l.getD k default] := by
  rw [comp_succ h, addLast, comp_last h0 (by omega), if_neg (fun q => e (Option.some.inj q).symm)]
theorem comp_small (h : l.length < 2) : compactF l = l := by
  cases l with
  | nil => rfl
  | cons x r =>
    cases r with
    | nil => simp [compactF, addLast]
    | cons y s => simp at h; omega
theorem comp_one : compactF (l.take 1) = l.take 1 := comp_small (by rw [List.length_take]; omega)
end
theorem eqKey (a b : SKey) : eqAgg Try.prog 26 (kk a) (kk b) = some (a.kind == b.kind && (a.n == b.n && true)) := by kernel_rfl
theorem key_ext {a b : SKey} (h : (a.kind == b.kind && (a.n == b.n && true)) = true) : a = b := by
  cases a
  cases b
  simp at h
  simp [h]
theorem key_ne {a b : SKey} (h : (a.kind == b.kind && (a.n == b.n && true)) = false) : a ≠ b := by
  intro e
  subst e
  simp at h
theorem nbF {b : Bool} (h : (!b) = false) : b = true := by cases b <;> simp_all
theorem nbT {b : Bool} (h : (!b) = true) : b = false := by cases b <;> simp_all
theorem key_ext' {a b : SKey} (h : (!(a.kind == b.kind && (a.n == b.n && true))) = false) : a = b := key_ext (nbF h)
theorem key_ne' {a b : SKey} (h : (!(a.kind == b.kind && (a.n == b.n && true))) = true) : a ≠ b := key_ne (nbT h)

set_option maxRecDepth 100000 in
set_option maxHeartbeats 4000000 in
theorem compactK (l : List SKey) (hl : l.length ≤ 4294967296) : CallsM Try.prog 100 [.slo 2 (em kk l)] none fun res q => res = .slo 2 (em kk (compactF l)) := by
  refine CallsM.intro (ls := [.own 500000000 0 0 l.length none]) (e := [(500000000, ⟨0, false, .slc, 2, em kk l⟩)]) (ju := none) (I0.sound _) mix Try.func100 rfl rfl (by simp [Try.f100]) (by kernel_rfl) (nb := 0) rfl (by simp [impAs, impT, impV, impC, genAt, em_len]) (fun k hk => by cases hk) (fun _ => rfl) ?_
  unfold Try.f100
  refine Wp.seqI ?_
  refine Wp.regI I0.mono ?_
  refine GL.assign I0.mono (by conv => lhs; whnf) ?_
  refine GL.doneF ?_
  refine goOn ?_
  refine Wp.seqI ?_
  refine Wp.seqI ?_
  refine Wp.regI I0.mono ?_
  refine GL.move I0.mono (by conv => lhs; whnf) ?_
  first | refine GL.lenF I0.mono rfl rfl (em_len _ _) ?_ | refine GL.lenO I0.mono rfl rfl rfl rfl ?_ | refine GL.lenN I0.mono rfl rfl ?_
  refine GL.bin I0.mono rfl ?_
  refine GL.doneF ?_
  refine goOn ?_
  refine Wp.condI rfl (fun h8 => ?_) (fun h8 => ?_)
  ·first | replace h8 := of_decide_eq_true h8 | replace h8 := bne_true h8 | skip
   refine Wp.seqI ?_
   refine Wp.regI I0.mono ?_
   refine GL.move I0.mono (by conv => lhs; whnf) ?_
   refine GL.assign I0.mono (by conv => lhs; whnf) ?_
   refine GL.doneF ?_
   refine goOn ?_
   refine Wp.retI ?_
   refine thenX.ret ?_
   refine RetJX.ret ?_
   first
   | (refine ⟨_, _, _, _, .cons (.tmp rfl) .nil, .slo rfl rfl rfl rfl (by rw [List.length_take]; simp [em_len]; omega), by simp, by simp, ?_⟩; show LV.slo 2 (List.drop 0 (List.take p _)) = _; rw [List.drop_zero, cut_eq _ _ _ _ _ (by omega), hC, show i + j = l.length by omega, List.take_length]; done)
   | (refine ⟨_, _, _, _, .cons (.tmp rfl) .nil, .slo rfl rfl rfl rfl (by rw [em_len]; simp), by simp, by simp, ?_⟩; show LV.slo 2 (em kk l) = _; rw [comp_small (by omega)]; done)
   | (refine ⟨_, _, _, _, .cons (.tmp rfl) .nil, .slo rfl rfl rfl rfl (by rw [em_len]; simp), by simp, by simp, ?_⟩; show LV.slo 2 (em kk l) = _; rw [show i = l.length by omega, List.take_length] at hI; rw [hI]; done)
  ·first | replace h8 := of_decide_eq_false h8 | replace h8 := bne_false h8 | skip
   refine Wp.skipI ?_
   refine goOn ?_
   refine Wp.seqI ?_
   refine Wp.seqI ?_
   refine Wp.regI I0.mono ?_
   refine GL.assign I0.mono (by conv => lhs; whnf) ?_
   refine GL.doneF ?_
   refine goOn ?_
   refine Wp.blockI ?_
   refine Wp.loopI I0.mono (α := Nat) (fun i st => (1 ≤ i ∧ i ≤ l.length ∧ compactF (l.take i) = l.take i) ∧ ∃ m0, st = ⟨(updS (updS (fun _ => LV.undef) 0 (.own 500000000 0 0 l.length none)) 3 (.int .i64 (i : Int))), effM m0 [(500000000, ⟨0, false, .slc, 2, em kk l⟩)]⟩) (fun i => l.length - i) 1 ⟨_, (LessS.weak (LessS.upd (LessS.upd (LessS.nil _) rfl) rfl) _), ⟨Nat.le_refl _, by omega, comp_one⟩, _, (congrArg (St.mk _) (effM_eq (Has.cons rfl Has.nil)).symm)⟩ ?_
   rintro i _ ⟨⟨hi1, hil, hI⟩, m0, rfl⟩
   refine Wp.seqI ?_
   refine Wp.seqI ?_
   refine Wp.regI I0.mono ?_
   refine GL.move I0.mono (by conv => lhs; whnf) ?_
   refine GL.move I0.mono (by conv => lhs; whnf) ?_
   first | refine GL.lenF I0.mono rfl rfl (em_len _ _) ?_ | refine GL.lenO I0.mono rfl rfl rfl rfl ?_ | refine GL.lenN I0.mono rfl rfl ?_
   refine GL.bin I0.mono rfl ?_
   refine GL.doneF ?_
   refine goOn ?_
   refine Wp.condI rfl (fun h13 => ?_) (fun h13 => ?_)
   ·first | replace h13 := of_decide_eq_true h13 | replace h13 := bne_true h13 | skip
    refine Wp.skipI ?_
    refine goOn ?_
    refine Wp.seqI ?_
    refine Wp.blockI ?_
    refine Wp.seqI ?_
    refine Wp.regD ?_
    refine GL.move I0.mono (by conv => lhs; whnf) ?_
    refine GL.move I0.mono (by conv => lhs; whnf) ?_
    refine GL.indexAddr I0.mono (sz := 2) (j := i) rfl rfl rfl rfl rfl rfl rfl rfl (by omega) (by omega) (by omega) ?_
    first | refine GL.loadW I0.mono (n := 2) rfl rfl rfl rfl (by simp) (by first | rfl | exact em_get (by omega)) rfl rfl ?_ | refine GL.loadFW I0.mono (n := 2) rfl rfl (em_get (by omega)) rfl rfl ?_ | refine GL.loadA I0.mono (n := 2) rfl rfl rfl rfl (by simp) (by first | rfl | exact em_get (by omega)) rfl (Nat.le_of_ble_eq_true rfl) (by first | (conv => lhs; simp only [List.take_succ_cons, List.take_zero, List.drop_succ_cons, List.drop_zero, List.nil_append, List.cons_append, List.drop_nil, List.append_nil, List.take_nil, List.set_cons_zero, List.set_cons_succ, Nat.zero_add, ni, nr, nc, ns, np, ic, nt, ei, cellsL]) | rfl) ?_ | refine GL.loadFA I0.mono (n := 2) rfl rfl (em_get (by omega)) rfl (Nat.le_of_ble_eq_true rfl) (by first | (conv => lhs; simp only [List.take_succ_cons, List.take_zero, List.drop_succ_cons, List.drop_zero, List.nil_append, List.cons_append, List.drop_nil, List.append_nil, List.take_nil, List.set_cons_zero, List.set_cons_succ, Nat.zero_add, ni, nr, nc, ns, np, ic, nt, ei, cellsL]) | rfl) ?_
    refine GL.move I0.mono (by conv => lhs; whnf) ?_
    refine GL.move I0.mono (by conv => lhs; whnf) ?_
    first | refine GL.subR I0.mono rfl rfl (by first | omega | assumption) ?_ | refine GL.bin I0.mono rfl ?_
    refine GL.indexAddr I0.mono (sz := 2) (j := i - 1) rfl rfl rfl rfl rfl rfl rfl rfl (by omega) (by omega) (by omega) ?_
    first | refine GL.loadW I0.mono (n := 2) rfl rfl rfl rfl (by simp) (by first | rfl | exact em_get (by omega)) rfl rfl ?_ | refine GL.loadFW I0.mono (n := 2) rfl rfl (em_get (by omega)) rfl rfl ?_ | refine GL.loadA I0.mono (n := 2) rfl rfl rfl rfl (by simp) (by first | rfl | exact em_get (by omega)) rfl (Nat.le_of_ble_eq_true rfl) (by first | (conv => lhs; simp only [List.take_succ_cons, List.take_zero, List.drop_succ_cons, List.drop_zero, List.nil_append, List.cons_append, List.drop_nil, List.append_nil, List.take_nil, List.set_cons_zero, List.set_cons_succ, Nat.zero_add, ni, nr, nc, ns, np, ic, nt, ei, cellsL]) | rfl) ?_ | refine GL.loadFA I0.mono (n := 2) rfl rfl (em_get (by omega)) rfl (Nat.le_of_ble_eq_true rfl) (by first | (conv => lhs; simp only [List.take_succ_cons, List.take_zero, List.drop_succ_cons, List.drop_zero, List.nil_append, List.cons_append, List.drop_nil, List.append_nil, List.take_nil, List.set_cons_zero, List.set_cons_succ, Nat.zero_add, ni, nr, nc, ns, np, ic, nt, ei, cellsL]) | rfl) ?_
    refine GL.eqlA I0.mono rfl rfl (eqKey _ _) ?_
    refine GL.doneT (by kernel_rfl) ?_
    refine goOn ?_
    refine Wp.condI rfl (fun h25 => ?_) (fun h25 => ?_)
    ·first | replace h25 := of_decide_eq_true h25 | replace h25 := bne_true h25 | skip
     have hdup := key_ext h25
     refine Wp.seqI ?_
     refine Wp.regI I0.mono ?_
     refine GL.move I0.mono (by conv => lhs; whnf) ?_
     refine GL.move I0.mono (by conv => lhs; whnf) ?_
     refine GL.sliceFromO I0.mono (sz := 2) (j := i) (len' := l.length - i) rfl rfl rfl rfl rfl rfl rfl rfl (by omega) (by omega) (by rw [em_len]; omega) (by omega) (by omega) ?_
     refine GL.assign I0.mono (by conv => lhs; whnf) ?_
     refine GL.doneF ?_
     refine goOn ?_
     refine Wp.seqI ?_
     refine Wp.seqI ?_
     refine Wp.regI I0.mono ?_
     refine GL.assign I0.mono (by conv => lhs; whnf) ?_
     refine GL.doneF ?_
     refine goOn ?_
     refine Wp.blockI ?_
     refine Wp.loopI I0.mono (α := Nat × Nat × List SKey) (fun ⟨p, j, s⟩ st => (1 ≤ j ∧ i + j ≤ l.length ∧ p < i + j ∧ s.length = l.length ∧ s.take p = compactF (l.take (i + j)) ∧ s.drop (i + j - 1) = l.drop (i + j - 1)) ∧ ∃ m0, st = ⟨(updS (updS (updS (updS (fun _ => LV.undef) 0 (.own 500000000 0 0 l.length none)) 3 (.int .i64 (p : Int))) 4 (.own 500000000 0 i (l.length - i) none)) 5 (.int .i64 (j : Int))), effM m0 [(500000000, ⟨0, false, .slc, 2, em kk s⟩)]⟩) (fun ⟨p, j, s⟩ => l.length - i - j) ⟨i, 1, l⟩ ⟨_, (LessS.weak (LessS.upd (LessS.upd (LessS.upd (LessS.upd (LessS.nil _) rfl) rfl) rfl) rfl) _), ⟨Nat.le_refl _, by omega, by omega, rfl, by rw [comp_eq (by omega) (by omega) hdup, hI], rfl⟩, _, (congrArg (St.mk _) (effM_eq (Has.cons rfl Has.nil)).symm)⟩ ?_
     rintro ⟨p, j, s⟩ _ ⟨⟨hj1, hijl, hpj, hsl, hC, hd⟩, m0, rfl⟩
     refine Wp.seqI ?_
     refine Wp.seqI ?_
     refine Wp.regI I0.mono ?_
     refine GL.move I0.mono (by conv => lhs; whnf) ?_
     refine GL.move I0.mono (by conv => lhs; whnf) ?_
     first | refine GL.lenF I0.mono rfl rfl (em_len _ _) ?_ | refine GL.lenO I0.mono rfl rfl rfl rfl ?_ | refine GL.lenN I0.mono rfl rfl ?_
     refine GL.bin I0.mono rfl ?_
     refine GL.doneF ?_
     refine goOn ?_
     refine Wp.condI rfl (fun h32 => ?_) (fun h32 => ?_)
     ·first | replace h32 := of_decide_eq_true h32 | replace h32 := bne_true h32 | skip
      have g1 := drop_getD_eq (j := i + j - 1) hd (by omega)
      have g2 := drop_getD_eq (s := s) (l := l) (j := i + j) (by have := drop_tail_eq hd; rwa [show i + j - 1 + 1 = i + j by omega] at this) (by omega)
      refine Wp.skipI ?_
      refine goOn ?_
      refine Wp.seqI ?_
      refine Wp.blockI ?_
      refine Wp.seqI ?_
      refine Wp.regD ?_
      refine GL.move I0.mono (by conv => lhs; whnf) ?_
      refine GL.move I0.mono (by conv => lhs; whnf) ?_
      refine GL.indexAddr I0.mono (sz := 2) (j := i + j) rfl rfl rfl rfl rfl rfl rfl rfl (by omega) (by omega) (by omega) ?_
      first | refine GL.loadW I0.mono (n := 2) rfl rfl rfl rfl (by simp) (by first | rfl | exact em_get (by omega)) rfl rfl ?_ | refine GL.loadFW I0.mono (n := 2) rfl rfl (em_get (by omega)) rfl rfl ?_ | refine GL.loadA I0.mono (n := 2) rfl rfl rfl rfl (by simp) (by first | rfl | exact em_get (by omega)) rfl (Nat.le_of_ble_eq_true rfl) (by first | (conv => lhs; simp only [List.take_succ_cons, List.take_zero, List.drop_succ_cons, List.drop_zero, List.nil_append, List.cons_append, List.drop_nil, List.append_nil, List.take_nil, List.set_cons_zero, List.set_cons_succ, Nat.zero_add, ni, nr, nc, ns, np, ic, nt, ei, cellsL]) | rfl) ?_ | refine GL.loadFA I0.mono (n := 2) rfl rfl (em_get (by omega)) rfl (Nat.le_of_ble_eq_true rfl) (by first | (conv => lhs; simp only [List.take_succ_cons, List.take_zero, List.drop_succ_cons, List.drop_zero, List.nil_append, List.cons_append, List.drop_nil, List.append_nil, List.take_nil, List.set_cons_zero, List.set_cons_succ, Nat.zero_add, ni, nr, nc, ns, np, ic, nt, ei, cellsL]) | rfl) ?_
      refine GL.move I0.mono (by conv => lhs; whnf) ?_
      refine GL.move I0.mono (by conv => lhs; whnf) ?_
      first | refine GL.subR I0.mono rfl rfl (by first | omega | assumption) ?_ | refine GL.bin I0.mono rfl ?_
      refine GL.indexAddr I0.mono (sz := 2) (j := i + j - 1) rfl rfl rfl rfl rfl rfl rfl rfl (by omega) (by omega) (by omega) ?_
      first | refine GL.loadW I0.mono (n := 2) rfl rfl rfl rfl (by simp) (by first | rfl | exact em_get (by omega)) rfl rfl ?_ | refine GL.loadFW I0.mono (n := 2) rfl rfl (em_get (by omega)) rfl rfl ?_ | refine GL.loadA I0.mono (n := 2) rfl rfl rfl rfl (by simp) (by first | rfl | exact em_get (by omega)) rfl (Nat.le_of_ble_eq_true rfl) (by first | (conv => lhs; simp only [List.take_succ_cons, List.take_zero, List.drop_succ_cons, List.drop_zero, List.nil_append, List.cons_append, List.drop_nil, List.append_nil, List.take_nil, List.set_cons_zero, List.set_cons_succ, Nat.zero_add, ni, nr, nc, ns, np, ic, nt, ei, cellsL]) | rfl) ?_ | refine GL.loadFA I0.mono (n := 2) rfl rfl (em_get (by omega)) rfl (Nat.le_of_ble_eq_true rfl) (by first | (conv => lhs; simp only [List.take_succ_cons, List.take_zero, List.drop_succ_cons, List.drop_zero, List.nil_append, List.cons_append, List.drop_nil, List.append_nil, List.take_nil, List.set_cons_zero, List.set_cons_succ, Nat.zero_add, ni, nr, nc, ns, np, ic, nt, ei, cellsL]) | rfl) ?_
      refine GL.neqA I0.mono rfl rfl (eqKey _ _) ?_
      refine GL.doneT (by kernel_rfl) ?_
      refine goOn ?_
      refine Wp.condI rfl (fun h44 => ?_) (fun h44 => ?_)
      ·first | replace h44 := of_decide_eq_true h44 | replace h44 := bne_true h44 | skip
       have hdif := key_ne' h44
       rw [g1, g2] at hdif
       refine Wp.seqI ?_
       refine Wp.regI I0.mono ?_
       refine GL.move I0.mono (by conv => lhs; whnf) ?_
       refine GL.move I0.mono (by conv => lhs; whnf) ?_
       refine GL.move I0.mono (by conv => lhs; whnf) ?_
       refine GL.move I0.mono (by conv => lhs; whnf) ?_
       refine GL.indexAddr I0.mono (sz := 2) (j := i + j) rfl rfl rfl rfl rfl rfl rfl rfl (by omega) (by omega) (by omega) ?_
       first | refine GL.loadW I0.mono (n := 2) rfl rfl rfl rfl (by simp) (by first | rfl | exact em_get (by omega)) rfl rfl ?_ | refine GL.loadFW I0.mono (n := 2) rfl rfl (em_get (by omega)) rfl rfl ?_ | refine GL.loadA I0.mono (n := 2) rfl rfl rfl rfl (by simp) (by first | rfl | exact em_get (by omega)) rfl (Nat.le_of_ble_eq_true rfl) (by first | (conv => lhs; simp only [List.take_succ_cons, List.take_zero, List.drop_succ_cons, List.drop_zero, List.nil_append, List.cons_append, List.drop_nil, List.append_nil, List.take_nil, List.set_cons_zero, List.set_cons_succ, Nat.zero_add, ni, nr, nc, ns, np, ic, nt, ei, cellsL]) | rfl) ?_ | refine GL.loadFA I0.mono (n := 2) rfl rfl (em_get (by omega)) rfl (Nat.le_of_ble_eq_true rfl) (by first | (conv => lhs; simp only [List.take_succ_cons, List.take_zero, List.drop_succ_cons, List.drop_zero, List.nil_append, List.cons_append, List.drop_nil, List.append_nil, List.take_nil, List.set_cons_zero, List.set_cons_succ, Nat.zero_add, ni, nr, nc, ns, np, ic, nt, ei, cellsL]) | rfl) ?_
       refine GL.indexAddr I0.mono (sz := 2) (j := p) rfl rfl rfl rfl rfl rfl rfl rfl (by omega) (by omega) (by omega) ?_
       refine GL.storeS I0.mono (n := 2) (es' := em kk (s.set p (s.getD (i + j) default))) rfl rfl rfl rfl rfl rfl (em_get (by omega)) rfl rfl rfl rfl (Nat.le_of_ble_eq_true rfl) rfl (em_set kk _ _ _) ?_
       refine GL.doneF ?_
       refine goOn ?_
       refine Wp.regI I0.mono ?_
       refine GL.move I0.mono (by conv => lhs; whnf) ?_
       first | refine GL.addR I0.mono rfl rfl (by first | omega | assumption) ?_ | refine GL.bin I0.mono rfl ?_
       refine GL.assign I0.mono (by conv => lhs; whnf) ?_
       refine GL.doneF ?_
       refine blockX.normal ?_
       refine goOn ?_
       refine Wp.regI I0.mono ?_
       refine GL.move I0.mono (by conv => lhs; whnf) ?_
       first | refine GL.addR I0.mono rfl rfl (by first | omega | assumption) ?_ | refine GL.bin I0.mono rfl ?_
       refine GL.assign I0.mono (by conv => lhs; whnf) ?_
       refine GL.doneF ?_
       first
       | refine ⟨⟨p, j + 1, s⟩, (by dsimp only; omega), _, (LessS.weak (LessS.upd (LessS.upd (LessS.upd (LessS.upd (LessS.nil _) rfl) rfl) rfl) rfl) _), ⟨by omega, by omega, by omega, hsl, by rw [hC, ← Nat.add_assoc, comp_eq (by omega) (by omega) hdup2], by have := drop_tail_eq hd; rwa [show i + j - 1 + 1 = i + (j + 1) - 1 by omega] at this⟩, _, (congrArg (St.mk _) (effM_eq (Has.cons rfl Has.nil)).symm)⟩
       | refine ⟨⟨p + 1, j + 1, s.set p (s.getD (i + j) default)⟩, (by dsimp only; omega), _, (LessS.weak (LessS.upd (LessS.upd (LessS.upd (LessS.upd (LessS.nil _) rfl) rfl) rfl) rfl) _), ⟨by omega, by omega, by omega, by rw [List.length_set, hsl], by rw [take_set (by omega), hC, g2, ← Nat.add_assoc, comp_ne (by omega) (by omega) hdif], by have := drop_tail_eq hd; rw [show i + j - 1 + 1 = i + (j + 1) - 1 by omega] at this; exact set_drop (by omega) this⟩, _, (congrArg (St.mk _) (effM_eq (Has.cons rfl Has.nil)).symm)⟩
      ·first | replace h44 := of_decide_eq_false h44 | replace h44 := bne_false h44 | skip
       have hdup2 := key_ext' h44
       rw [g1, g2] at hdup2
       refine Wp.skipI ?_
       refine blockX.normal ?_
       refine goOn ?_
       refine Wp.regI I0.mono ?_
       refine GL.move I0.mono (by conv => lhs; whnf) ?_
       first | refine GL.addR I0.mono rfl rfl (by first | omega | assumption) ?_ | refine GL.bin I0.mono rfl ?_
       refine GL.assign I0.mono (by conv => lhs; whnf) ?_
       refine GL.doneF ?_
       first
       | refine ⟨⟨p, j + 1, s⟩, (by dsimp only; omega), _, (LessS.weak (LessS.upd (LessS.upd (LessS.upd (LessS.upd (LessS.nil _) rfl) rfl) rfl) rfl) _), ⟨by omega, by omega, by omega, hsl, by rw [hC, ← Nat.add_assoc, comp_eq (by omega) (by omega) hdup2], by have := drop_tail_eq hd; rwa [show i + j - 1 + 1 = i + (j + 1) - 1 by omega] at this⟩, _, (congrArg (St.mk _) (effM_eq (Has.cons rfl Has.nil)).symm)⟩
       | refine ⟨⟨p + 1, j + 1, s.set p (s.getD (i + j) default)⟩, (by dsimp only; omega), _, (LessS.weak (LessS.upd (LessS.upd (LessS.upd (LessS.upd (LessS.nil _) rfl) rfl) rfl) rfl) _), ⟨by omega, by omega, by omega, by rw [List.length_set, hsl], by rw [take_set (by omega), hC, g2, ← Nat.add_assoc, comp_ne (by omega) (by omega) hdif], by have := drop_tail_eq hd; rw [show i + j - 1 + 1 = i + (j + 1) - 1 by omega] at this; exact set_drop (by omega) this⟩, _, (congrArg (St.mk _) (effM_eq (Has.cons rfl Has.nil)).symm)⟩
     ·first | replace h32 := of_decide_eq_false h32 | replace h32 := bne_false h32 | skip
      refine Wp.exitI ?_
      refine thenX.exit ?_
      refine thenX.exit ?_
      refine blockX.out ?_
      refine goOn ?_
      refine Wp.seqI ?_
      refine Wp.regI I0.mono ?_
      refine GL.move I0.mono (by conv => lhs; whnf) ?_
      refine GL.move I0.mono (by conv => lhs; whnf) ?_
      refine GL.sliceFromO I0.mono (sz := 2) (j := p) (len' := l.length - p) rfl rfl rfl rfl rfl rfl rfl rfl (by omega) (by omega) (by rw [em_len]; omega) (by simp) (by simp) ?_
      refine GL.clear I0.mono (z := [.int .i64 0, .int .i64 0]) rfl rfl (by decide) rfl rfl rfl rfl rfl rfl rfl (by rw [em_len]; omega) rfl ?_
      refine GL.doneF ?_
      refine goOn ?_
      refine Wp.seqI ?_
      refine Wp.regI I0.mono ?_
      refine GL.move I0.mono (by conv => lhs; whnf) ?_
      refine GL.move I0.mono (by conv => lhs; whnf) ?_
      refine GL.sliceToO I0.mono (sz := 2) (j := p) rfl rfl rfl rfl rfl rfl rfl rfl (by omega) (by omega) (by simp [em_len]; omega) (by simp) ?_
      refine GL.assign I0.mono (by conv => lhs; whnf) ?_
      refine GL.doneF ?_
      first | refine goWeak (Weak.cutSl (j := 2) (b := 500000000) (i := p) rfl rfl rfl rfl rfl (by simp [em_len]; omega)) ?_ | refine goOn ?_
      refine Wp.retI ?_
      refine blockX.ret ?_
      refine thenX.ret ?_
      refine thenX.ret ?_
      refine blockX.ret ?_
      refine thenX.ret ?_
      refine RetJX.ret ?_
      first
      | (refine ⟨_, _, _, _, .cons (.tmp rfl) .nil, .slo rfl rfl rfl rfl (by rw [List.length_take]; simp [em_len]; omega), by simp, by simp, ?_⟩; show LV.slo 2 (List.drop 0 (List.take p _)) = _; rw [List.drop_zero, cut_eq _ _ _ _ _ (by omega), hC, show i + j = l.length by omega, List.take_length]; done)
      | (refine ⟨_, _, _, _, .cons (.tmp rfl) .nil, .slo rfl rfl rfl rfl (by rw [em_len]; simp), by simp, by simp, ?_⟩; show LV.slo 2 (em kk l) = _; rw [comp_small (by omega)]; done)
      | (refine ⟨_, _, _, _, .cons (.tmp rfl) .nil, .slo rfl rfl rfl rfl (by rw [em_len]; simp), by simp, by simp, ?_⟩; show LV.slo 2 (em kk l) = _; rw [show i = l.length by omega, List.take_length] at hI; rw [hI]; done)
    ·first | replace h25 := of_decide_eq_false h25 | replace h25 := bne_false h25 | skip
     have hdif := key_ne h25
     refine Wp.skipI ?_
     refine blockX.normal ?_
     first | refine goWeak (Weak.cutSl (j := 2) (b := 500000000) (i := p) rfl rfl rfl rfl rfl (by simp [em_len]; omega)) ?_ | refine goOn ?_
     refine Wp.regI I0.mono ?_
     refine GL.move I0.mono (by conv => lhs; whnf) ?_
     first | refine GL.addR I0.mono rfl rfl (by first | omega | assumption) ?_ | refine GL.bin I0.mono rfl ?_
     refine GL.assign I0.mono (by conv => lhs; whnf) ?_
     refine GL.doneF ?_
     refine ⟨i + 1, (by dsimp only; omega), _, (LessS.weak (LessS.upd (LessS.upd (LessS.nil _) rfl) rfl) _), ⟨by omega, by omega, by rw [comp_ne (by omega) (by omega) hdif, hI, take_snocG (by omega)]⟩, _, (congrArg (St.mk _) (effM_eq (Has.cons rfl Has.nil)).symm)⟩
   ·first | replace h13 := of_decide_eq_false h13 | replace h13 := bne_false h13 | skip
    refine Wp.exitI ?_
    refine thenX.exit ?_
    refine thenX.exit ?_
    refine blockX.out ?_
    refine goOn ?_
    refine Wp.seqI ?_
    refine Wp.regI I0.mono ?_
    refine GL.move I0.mono (by conv => lhs; whnf) ?_
    refine GL.assign I0.mono (by conv => lhs; whnf) ?_
    refine GL.doneF ?_
    refine goOn ?_
    refine Wp.retI ?_
    refine RetJX.ret ?_
    first
    | (refine ⟨_, _, _, _, .cons (.tmp rfl) .nil, .slo rfl rfl rfl rfl (by rw [List.length_take]; simp [em_len]; omega), by simp, by simp, ?_⟩; show LV.slo 2 (List.drop 0 (List.take p _)) = _; rw [List.drop_zero, cut_eq _ _ _ _ _ (by omega), hC, show i + j = l.length by omega, List.take_length]; done)
    | (refine ⟨_, _, _, _, .cons (.tmp rfl) .nil, .slo rfl rfl rfl rfl (by rw [em_len]; simp), by simp, by simp, ?_⟩; show LV.slo 2 (em kk l) = _; rw [comp_small (by omega)]; done)
    | (refine ⟨_, _, _, _, .cons (.tmp rfl) .nil, .slo rfl rfl rfl rfl (by rw [em_len]; simp), by simp, by simp, ?_⟩; show LV.slo 2 (em kk l) = _; rw [show i = l.length by omega, List.take_length] at hI; rw [hI]; done)

end Go.Proofs.Ytffnlhjdlhpmjaa
