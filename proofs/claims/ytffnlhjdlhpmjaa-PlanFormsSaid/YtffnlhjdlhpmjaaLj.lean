/- Plans compared; cost; what is unassigned: walked. -/
import Derived.Test.YtffnlhjdlhpmjaaProg
import Derived.Test.YtffnlhjdlhpmjaaLi
import Derived.KernelRfl
set_option linter.all false
namespace Go.Proofs.Ytffnlhjdlhpmjaa
open Go.Proofs Mv
set_option maxRecDepth 100000 in
set_option maxHeartbeats 4000000 in
theorem is_ok (i : Inst) (n : Int) : CallsV Try.prog 139 [ei i, .int .i64 n] (.bool (isStop i n)) := by
  refine CallsR.intro (I0.sound _) mix Try.func139 rfl rfl (by simp [Try.f139]) (by kernel_rfl) (nb := 0) ?_
  unfold Try.f139
  refine Wp.seqI ?_
  refine Wp.regI I0.mono ?_
  refine GL.box I0.mono (by conv => lhs; whnf) rfl (n := 4) rfl rfl ?_
  intro g2
  refine GL.assign I0.mono (by conv => lhs; whnf) ?_
  refine GL.doneF ?_
  refine goOn ?_
  refine Wp.seqI ?_
  refine Wp.regI I0.mono ?_
  refine GL.move I0.mono (by conv => lhs; whnf) ?_
  refine GL.bin I0.mono rfl ?_
  refine GL.move I0.mono (by conv => lhs; whnf) ?_
  refine GL.splitAt 7 rfl (fun h7 => ?_) (fun h7 => ?_)
  ·rw [h7]
   replace h7 := of_decide_eq_true h7
   refine GL.guardT rfl ?_
   refine GL.move I0.mono (by conv => lhs; whnf) ?_
   refine GL.guardT rfl ?_
   refine GL.fieldAddr I0.mono (o := 1) rfl rfl rfl rfl (by conv => lhs; whnf) ?_
   refine GL.guardT rfl ?_
   refine GL.load I0.mono rfl rfl rfl rfl (by simp) rfl rfl ?_
   refine GL.guardT rfl ?_
   refine GL.lenF I0.mono rfl rfl (em_len _ _) ?_
   refine GL.guardT rfl ?_
   refine GL.bin I0.mono rfl ?_
   refine GL.pick I0.mono rfl (by conv => lhs; whnf) ?_
   refine GL.assign I0.mono (by conv => lhs; whnf) ?_
   refine GL.doneF ?_
   refine goOn ?_
   refine Wp.retI ?_
   refine RetX.ret ?_
   refine ⟨_, _, _, _, .cons (.tmp rfl) .nil, .frz (.pure rfl), List.nodup_nil, by simp, ?_⟩
   show LV.bool _ = LV.bool _
   congr 1
   simp only [isStop, ge_iff_le] at *
   (simp [*]; done)
  ·rw [h7]
   replace h7 := of_decide_eq_false h7
   refine GL.guardF rfl ?_
   refine GL.guardF rfl ?_
   refine GL.guardF rfl ?_
   refine GL.guardF rfl ?_
   refine GL.guardF rfl ?_
   refine GL.pick I0.mono rfl (by conv => lhs; whnf) ?_
   refine GL.assign I0.mono (by conv => lhs; whnf) ?_
   refine GL.doneF ?_
   refine goOn ?_
   refine Wp.retI ?_
   refine RetX.ret ?_
   refine ⟨_, _, _, _, .cons (.tmp rfl) .nil, .frz (.pure rfl), List.nodup_nil, by simp, ?_⟩
   show LV.bool _ = LV.bool _
   congr 1
   simp only [isStop, ge_iff_le] at *
   (simp [*]; done)

set_option maxRecDepth 100000 in
set_option maxHeartbeats 4000000 in
theorem way_ok (i : Inst) (hs : i.Short) (a b : Int) (ha : 0 ≤ a) (hb : 0 ≤ b) : CallsV Try.prog 125 [ei i, .int .i64 a, .int .i64 b] (.int .i64 (way i a b)) := by
  refine CallsR.intro (I0.sound _) mix Try.func125 rfl rfl (by simp [Try.f125]) (by kernel_rfl) (nb := 0) ?_
  unfold Try.f125
  refine Wp.seqI ?_
  refine Wp.regI I0.mono ?_
  refine GL.box I0.mono (by conv => lhs; whnf) rfl (n := 4) rfl rfl ?_
  intro g3
  refine GL.assign I0.mono (by conv => lhs; whnf) ?_
  refine GL.doneF ?_
  refine goOn ?_
  refine Wp.seqI ?_
  refine Wp.seqI ?_
  refine Wp.regI I0.mono ?_
  refine GL.move I0.mono (by conv => lhs; whnf) ?_
  refine GL.fieldAddr I0.mono (o := 3) rfl rfl rfl rfl (by conv => lhs; whnf) ?_
  refine GL.load I0.mono rfl rfl rfl rfl (by simp) rfl rfl ?_
  refine GL.lenF I0.mono rfl rfl (em_len _ _) ?_
  refine GL.bin I0.mono rfl ?_
  refine GL.move I0.mono (by conv => lhs; whnf) ?_
  refine GL.splitAt 12 rfl (fun h12 => ?_) (fun h12 => ?_)
  ·rw [h12]
   replace h12 := of_decide_eq_true h12
   refine GL.guardF rfl ?_
   refine GL.guardF rfl ?_
   refine GL.guardF rfl ?_
   refine GL.guardF rfl ?_
   refine GL.guardF rfl ?_
   refine GL.guardF rfl ?_
   refine GL.guardF rfl ?_
   refine GL.guardF rfl ?_
   refine GL.pick I0.mono rfl (by conv => lhs; whnf) ?_
   refine GL.doneF ?_
   refine goOn ?_
   refine Wp.condT rfl ?_
   refine Wp.seqI ?_
   refine Wp.regI I0.mono ?_
   refine GL.assign I0.mono (by conv => lhs; whnf) ?_
   refine GL.doneF ?_
   refine goOn ?_
   refine Wp.retI ?_
   refine thenX.ret ?_
   refine RetX.ret ?_
   refine ⟨_, _, _, _, .cons (.tmp rfl) .nil, .frz (.pure rfl), List.nodup_nil, by simp, ?_⟩
   show LV.int _ _ = LV.int _ _
   simp only [way]
   (rw [if_pos (by omega)]; done)
  ·rw [h12]
   replace h12 := of_decide_eq_false h12
   refine GL.guardT rfl ?_
   refine GL.move I0.mono (by conv => lhs; whnf) ?_
   refine GL.guardT rfl ?_
   refine GL.fieldAddr I0.mono (o := 3) rfl rfl rfl rfl (by conv => lhs; whnf) ?_
   refine GL.guardT rfl ?_
   refine GL.load I0.mono rfl rfl rfl rfl (by simp) rfl rfl ?_
   refine GL.guardT rfl ?_
   refine GL.move I0.mono (by conv => lhs; whnf) ?_
   refine GL.guardT rfl ?_
   refine GL.indexAddrF I0.mono (sz := 1) rfl rfl rfl rfl (by omega) (by (rw [em_len]; omega)) (by intro e he; obtain ⟨a, -, rfl⟩ := List.mem_map.1 he; rfl) (by rfl) ?_
   refine GL.guardT rfl ?_
   refine GL.loadF I0.mono rfl rfl (em_get (by omega)) rfl ?_
   refine GL.guardT rfl ?_
   refine GL.lenF I0.mono rfl rfl (em_len _ _) ?_
   refine GL.guardT rfl ?_
   refine GL.bin I0.mono rfl ?_
   refine GL.pick I0.mono rfl (by conv => lhs; whnf) ?_
   refine GL.doneF ?_
   refine goOn ?_
   refine Wp.condI rfl (fun h21 => ?_) (fun h21 => ?_)
   ·replace h21 := of_decide_eq_true h21
    refine Wp.seqI ?_
    refine Wp.regI I0.mono ?_
    refine GL.assign I0.mono (by conv => lhs; whnf) ?_
    refine GL.doneF ?_
    refine goOn ?_
    refine Wp.retI ?_
    refine thenX.ret ?_
    refine RetX.ret ?_
    refine ⟨_, _, _, _, .cons (.tmp rfl) .nil, .frz (.pure rfl), List.nodup_nil, by simp, ?_⟩
    show LV.int _ _ = LV.int _ _
    simp only [way]
    (rw [if_neg (by omega), if_pos (by omega)]; done)
   ·replace h21 := of_decide_eq_false h21
    refine Wp.skipI ?_
    refine goOn ?_
    refine Wp.seqI ?_
    refine Wp.regI I0.mono ?_
    refine GL.fieldAddr I0.mono (o := 3) rfl rfl rfl rfl (by conv => lhs; whnf) ?_
    refine GL.load I0.mono rfl rfl rfl rfl (by simp) rfl rfl ?_
    refine GL.move I0.mono (by conv => lhs; whnf) ?_
    refine GL.indexAddrF I0.mono (sz := 1) rfl rfl rfl rfl (by omega) (by (rw [em_len]; omega)) (by intro e he; obtain ⟨a, -, rfl⟩ := List.mem_map.1 he; rfl) (by rfl) ?_
    refine GL.loadF I0.mono rfl rfl (em_get (by omega)) rfl ?_
    refine GL.move I0.mono (by conv => lhs; whnf) ?_
    refine GL.indexAddrF I0.mono (sz := 1) rfl rfl rfl rfl (by omega) (by (rw [em_len]; omega)) (by intro e he; obtain ⟨a, -, rfl⟩ := List.mem_map.1 he; rfl) (by rfl) ?_
    refine GL.loadF I0.mono rfl rfl (em_get (by omega)) rfl ?_
    refine GL.assign I0.mono (by conv => lhs; whnf) ?_
    refine GL.doneF ?_
    refine goOn ?_
    refine Wp.retI ?_
    refine RetX.ret ?_
    refine ⟨_, _, _, _, .cons (.tmp rfl) .nil, .frz (.pure rfl), List.nodup_nil, by simp, ?_⟩
    show LV.int _ _ = LV.int _ _
    simp only [way]
    (rw [if_neg (by omega), if_neg (by omega)]; done)

set_option maxRecDepth 100000 in
set_option maxHeartbeats 4000000 in
theorem cost_ok (i : Inst) (hs : i.Short) (l : List Int) (hl : Short l) : CallsV Try.prog 95 [ei i, .sl (em ni l)] (.int .i64 (cost i l)) := by
  refine CallsR.intro (I0.sound _) mix Try.func95 rfl rfl (by simp [Try.f95]) (by kernel_rfl) (nb := 0) ?_
  unfold Try.f95
  refine Wp.seqI ?_
  refine Wp.regI I0.mono ?_
  refine GL.box I0.mono (by conv => lhs; whnf) rfl (n := 4) rfl rfl ?_
  intro g2
  refine GL.assign I0.mono (by conv => lhs; whnf) ?_
  refine GL.doneF ?_
  refine goOn ?_
  refine Wp.seqI ?_
  refine Wp.regI I0.mono ?_
  refine GL.assign I0.mono (by conv => lhs; whnf) ?_
  refine GL.assign I0.mono (by conv => lhs; whnf) ?_
  refine GL.doneF ?_
  refine goOn ?_
  refine Wp.seqI ?_
  refine Wp.seqI ?_
  refine Wp.regI I0.mono ?_
  refine GL.move I0.mono (by conv => lhs; whnf) ?_
  refine GL.lenF I0.mono rfl rfl (em_len _ _) ?_
  refine GL.move I0.mono (by conv => lhs; whnf) ?_
  refine GL.doneF ?_
  refine goOn ?_
  refine Wp.blockI ?_
  refine Wp.loopI I0.mono (α := Nat × Int × Int) (fun ⟨k, s, p⟩ st => (k ≤ l.length ∧ cost i l = costGo i p s (l.drop k) ∧ 0 ≤ p) ∧ ∃ m0, st = ⟨(updS (updS (updS (updS (updS (updS (fun _ => LV.undef) 9 (.sl (em ni l))) 10 (.int .i64 (l.length : Int))) 11 (.int .i64 (k : Int))) 5 (.int .i64 s)) 6 (.int .i64 p)) 2 (.ref 128 g2 0 0)), effM m0 [(128, ⟨g2, false, .var, 4, [ic i]⟩)]⟩) (fun ⟨k, s, p⟩ => l.length - k) ⟨0, 0, 0⟩ ⟨_, (LessS.weak (LessS.upd (LessS.upd (LessS.upd (LessS.upd (LessS.upd (LessS.upd (LessS.nil _) rfl) rfl) rfl) rfl) rfl) rfl) _), ⟨by omega, rfl, by omega⟩, _, (congrArg (St.mk _) (effM_eq (Has.cons rfl Has.nil)).symm)⟩ ?_
  rintro ⟨k, s, p⟩ _ ⟨⟨hi, hA, hp⟩, m0, rfl⟩
  have hsp := hl
  unfold Short at hsp
  refine Wp.seqI ?_
  refine Wp.regI I0.mono ?_
  refine GL.bin I0.mono rfl ?_
  refine GL.doneF ?_
  refine goOn ?_
  refine Wp.seqI ?_
  refine Wp.condI rfl (fun h12 => ?_) (fun h12 => ?_)
  ·replace h12 := of_decide_eq_true h12
   refine Wp.skipI ?_
   refine goOn ?_
   refine Wp.seqI ?_
   refine Wp.blockI ?_
   refine Wp.seqI ?_
   refine Wp.regI I0.mono ?_
   refine GL.indexAddrF I0.mono (sz := 1) rfl rfl rfl rfl (by omega) (by (rw [em_len]; omega)) (by intro e he; obtain ⟨a, -, rfl⟩ := List.mem_map.1 he; rfl) (by with_reducible exact Int.toNat_natCast _) ?_
   refine GL.loadF I0.mono rfl rfl (em_get (by omega)) rfl ?_
   refine GL.assign I0.mono (by conv => lhs; whnf) ?_
   refine GL.doneF ?_
   refine goOn ?_
   refine Wp.seqI ?_
   refine Wp.seqI ?_
   refine Wp.regI I0.mono ?_
   refine GL.loadW I0.mono (n := 4) rfl rfl rfl rfl (by simp) rfl rfl rfl ?_
   refine GL.move I0.mono (by conv => lhs; whnf) ?_
   refine GL.call0 I0.mono rfl (Frz.aggc (by exact Frz.pures rfl) (Frz.aggc (by exact Frz.pure rfl) (Frz.aggn))) (is_ok i _) rfl rfl (fun _ => rfl) ?_
   refine GL.un I0.mono rfl ?_
   refine GL.doneF ?_
   refine goOn ?_
   refine Wp.condI rfl (fun h18 => ?_) (fun h18 => ?_)
   ·skip
    refine Wp.seqI ?_
    refine Wp.regI I0.mono ?_
    refine GL.assign I0.mono (by conv => lhs; whnf) ?_
    refine GL.doneF ?_
    refine goOn ?_
    refine Wp.retI ?_
    refine thenX.ret ?_
    refine blockX.ret ?_
    refine thenX.ret ?_
    refine thenX.ret ?_
    refine blockX.ret ?_
    refine thenX.ret ?_
    refine RetX.ret ?_
    refine ⟨_, _, _, _, .cons (.tmp rfl) .nil, .frz (.pure rfl), List.nodup_nil, by simp, ?_⟩
    show LV.int _ _ = LV.int _ _
    congr 1
    symm
    rw [hA]
    (rw [drop_getD (by omega), costGo, if_neg (by simpa using h18)]; done)
   ·skip
    refine Wp.skipI ?_
    refine goOn ?_
    refine Wp.regI I0.mono ?_
    refine GL.move I0.mono (by conv => lhs; whnf) ?_
    refine GL.loadW I0.mono (n := 4) rfl rfl rfl rfl (by simp) rfl rfl rfl ?_
    refine GL.move I0.mono (by conv => lhs; whnf) ?_
    refine GL.move I0.mono (by conv => lhs; whnf) ?_
    refine GL.call0 I0.mono rfl (Frz.aggc (by exact Frz.pures rfl) (Frz.aggc (by exact Frz.pure rfl) (Frz.aggc (by exact Frz.pure rfl) (Frz.aggn)))) (way_ok i hs _ _ (by omega) (by exact isStop_nn (by simpa using h18))) rfl rfl (fun _ => rfl) ?_
    refine GL.bin I0.mono rfl ?_
    refine GL.move I0.mono (by conv => lhs; whnf) ?_
    refine GL.assign I0.mono (by conv => lhs; whnf) ?_
    refine GL.assign I0.mono (by conv => lhs; whnf) ?_
    refine GL.doneF ?_
    refine blockX.normal ?_
    refine goOn ?_
    refine Wp.regI I0.mono ?_
    refine GL.addR I0.mono rfl rfl (by omega) ?_
    refine GL.move I0.mono (by conv => lhs; whnf) ?_
    refine GL.doneF ?_
    refine ⟨⟨k + 1, _, _⟩, (by dsimp only; omega), _, (LessS.weak (LessS.upd (LessS.upd (LessS.upd (LessS.upd (LessS.upd (LessS.upd (LessS.nil _) rfl) rfl) rfl) rfl) rfl) rfl) _), ⟨by omega, by rw [hA, drop_getD (by omega), costGo, if_pos (by simpa using h18)]; rfl, isStop_nn (by simpa using h18)⟩, _, (congrArg (St.mk _) (effM_eq (Has.cons rfl Has.nil)).symm)⟩
  ·replace h12 := of_decide_eq_false h12
   refine Wp.exitI ?_
   refine thenX.exit ?_
   refine thenX.exit ?_
   refine blockX.out ?_
   refine goOn ?_
   refine Wp.seqI ?_
   refine Wp.regI I0.mono ?_
   refine GL.move I0.mono (by conv => lhs; whnf) ?_
   refine GL.loadW I0.mono (n := 4) rfl rfl rfl rfl (by simp) rfl rfl rfl ?_
   refine GL.move I0.mono (by conv => lhs; whnf) ?_
   refine GL.call0 I0.mono rfl (Frz.aggc (by exact Frz.pures rfl) (Frz.aggc (by exact Frz.pure rfl) (Frz.aggc (by exact Frz.pure rfl) (Frz.aggn)))) (way_ok i hs _ _ (by omega) (by omega)) rfl rfl (fun _ => rfl) ?_
   refine GL.bin I0.mono rfl ?_
   refine GL.assign I0.mono (by conv => lhs; whnf) ?_
   refine GL.doneF ?_
   refine goOn ?_
   refine Wp.retI ?_
   refine RetX.ret ?_
   refine ⟨_, _, _, _, .cons (.tmp rfl) .nil, .frz (.pure rfl), List.nodup_nil, by simp, ?_⟩
   show LV.int _ _ = LV.int _ _
   congr 1
   symm
   rw [hA]
   (rw [drop_all (by omega)]; rfl)

def exactS (a b : Plan) : Bool := decide (a.routes = b.routes) && (decide (a.lock = b.lock) && decide (a.ice = b.ice))
def exactB (a b : Plan) : Bool := exactS a b && (decide (a.rv = b.rv) && (decide (a.sv = b.sv) && (decide (a.iv = b.iv) && (a.pv == b.pv))))
theorem rows_ext {l l' : List (List Int)} (h : l.length = l'.length) (hA : ∀ j, j < l.length → l.getD j default = l'.getD j default) : l = l' :=
  List.ext_getElem h fun i h1 h2 => by
    have := hA i h1
    simpa [List.getD, h1, h2] using this
theorem ndec {p : Prop} [Decidable p] (h : (!decide p) = false) : p := by simpa using h
theorem ndecT {p : Prop} [Decidable p] (h : (!decide p) = true) : ¬ p := by simpa using h

set_option maxRecDepth 100000 in
set_option maxHeartbeats 4000000 in
theorem alike_ok (l l' : List Int) (hl : l.length ≤ 1000000) (hl' : l'.length ≤ 1000000) : CallsV Try.prog 93 [.sl (em ni l), .sl (em ni l')] (.bool (decide (l = l'))) := by
  refine CallsR.intro (I0.sound _) mix Try.func93 rfl rfl (by simp [Try.f93]) (by kernel_rfl) (nb := 0) ?_
  unfold Try.f93
  refine Wp.seqI ?_
  refine Wp.regI I0.mono ?_
  refine GL.assign I0.mono (by conv => lhs; whnf) ?_
  refine GL.doneF ?_
  refine goOn ?_
  refine Wp.seqI ?_
  refine Wp.seqI ?_
  refine Wp.regI I0.mono ?_
  refine GL.move I0.mono (by conv => lhs; whnf) ?_
  refine GL.lenF I0.mono rfl rfl (em_len _ _) ?_
  refine GL.move I0.mono (by conv => lhs; whnf) ?_
  refine GL.lenF I0.mono rfl rfl (em_len _ _) ?_
  refine GL.bin I0.mono rfl ?_
  refine GL.doneF ?_
  refine goOn ?_
  refine Wp.condI rfl (fun h10 => ?_) (fun h10 => ?_)
  ·replace h10 := bne_true h10
   refine Wp.seqI ?_
   refine Wp.regI I0.mono ?_
   refine GL.assign I0.mono (by conv => lhs; whnf) ?_
   refine GL.doneF ?_
   refine goOn ?_
   refine Wp.retI ?_
   refine thenX.ret ?_
   refine RetX.ret ?_
   refine ⟨_, _, _, _, .cons (.tmp rfl) .nil, .frz (.pure rfl), List.nodup_nil, by simp, ?_⟩
   show LV.bool _ = LV.bool _
   congr 1
   symm
   (refine decide_eq_false (fun h => ?_); subst h; simp at h10; done)
  ·replace h10 := bne_false h10
   have h10e : l.length = l'.length := by first | omega | (simp at h10; omega)
   refine Wp.skipI ?_
   refine goOn ?_
   refine Wp.seqI ?_
   refine Wp.seqI ?_
   refine Wp.regI I0.mono ?_
   refine GL.move I0.mono (by conv => lhs; whnf) ?_
   refine GL.lenF I0.mono rfl rfl (em_len _ _) ?_
   refine GL.move I0.mono (by conv => lhs; whnf) ?_
   refine GL.doneF ?_
   refine goOn ?_
   refine Wp.blockI ?_
   refine Wp.loopI I0.mono (α := Nat) (fun i st => (i ≤ l.length ∧ ∀ j, j < i → l.getD j default = l'.getD j default) ∧ ∃ m0, st = ⟨(updS (updS (updS (updS (fun _ => LV.undef) 0 (.sl (em ni l))) 1 (.sl (em ni l'))) 12 (.int .i64 (l.length : Int))) 13 (.int .i64 (i : Int))), effM m0 []⟩) (fun i => l.length - i) 0 ⟨_, (LessS.weak (LessS.upd (LessS.upd (LessS.upd (LessS.upd (LessS.nil _) rfl) rfl) rfl) rfl) _), ⟨by omega, fun j h => by omega⟩, _, (congrArg (St.mk _) (effM_eq Has.nil).symm)⟩ ?_
   rintro i _ ⟨⟨hi, hA⟩, m0, rfl⟩
   refine Wp.seqI ?_
   refine Wp.regI I0.mono ?_
   refine GL.bin I0.mono rfl ?_
   refine GL.doneF ?_
   refine goOn ?_
   refine Wp.seqI ?_
   refine Wp.condI rfl (fun h14 => ?_) (fun h14 => ?_)
   ·replace h14 := of_decide_eq_true h14
    refine Wp.skipI ?_
    refine goOn ?_
    refine Wp.seqI ?_
    refine Wp.blockI ?_
    refine Wp.seqI ?_
    refine Wp.regI I0.mono ?_
    refine GL.move I0.mono (by conv => lhs; whnf) ?_
    refine GL.assign I0.mono (by conv => lhs; whnf) ?_
    refine GL.doneF ?_
    refine goOn ?_
    refine Wp.seqI ?_
    refine Wp.regD ?_
    refine GL.move I0.mono (by conv => lhs; whnf) ?_
    refine GL.move I0.mono (by conv => lhs; whnf) ?_
    refine GL.indexAddrF I0.mono (sz := 1) rfl rfl rfl rfl (by omega) (by rw [em_len]; omega) (by intro e he; obtain ⟨a, -, rfl⟩ := List.mem_map.1 he; rfl) (by with_reducible exact Int.toNat_natCast _) ?_
    refine GL.loadF I0.mono rfl rfl (em_get (by omega)) rfl ?_
    refine GL.move I0.mono (by conv => lhs; whnf) ?_
    refine GL.move I0.mono (by conv => lhs; whnf) ?_
    refine GL.indexAddrF I0.mono (sz := 1) rfl rfl rfl rfl (by omega) (by rw [em_len]; omega) (by intro e he; obtain ⟨a, -, rfl⟩ := List.mem_map.1 he; rfl) (by with_reducible exact Int.toNat_natCast _) ?_
    refine GL.loadF I0.mono rfl rfl (em_get (by omega)) rfl ?_
    refine GL.bin I0.mono rfl ?_
    refine GL.doneT (by kernel_rfl) ?_
    refine goOn ?_
    refine Wp.condI rfl (fun h24 => ?_) (fun h24 => ?_)
    ·replace h24 := bne_true h24
     refine Wp.seqI ?_
     refine Wp.regI I0.mono ?_
     refine GL.assign I0.mono (by conv => lhs; whnf) ?_
     refine GL.doneF ?_
     refine goOn ?_
     refine Wp.retI ?_
     refine blockX.ret ?_
     refine thenX.ret ?_
     refine thenX.ret ?_
     refine blockX.ret ?_
     refine thenX.ret ?_
     refine RetX.ret ?_
     refine ⟨_, _, _, _, .cons (.tmp rfl) .nil, .frz (.pure rfl), List.nodup_nil, by simp, ?_⟩
     show LV.bool _ = LV.bool _
     congr 1
     symm
     (refine decide_eq_false (fun h => ?_); subst h; simp at h24; done)
    ·replace h24 := bne_false h24
     refine Wp.skipI ?_
     refine blockX.normal ?_
     refine goOn ?_
     refine Wp.regI I0.mono ?_
     refine GL.addR I0.mono rfl rfl (by omega) ?_
     refine GL.move I0.mono (by conv => lhs; whnf) ?_
     refine GL.doneF ?_
     refine ⟨i + 1, (by dsimp only; omega), _, (LessS.weak (LessS.upd (LessS.upd (LessS.upd (LessS.upd (LessS.nil _) rfl) rfl) rfl) rfl) _), ⟨by omega, fun j h => by
           by_cases hj : j = i
           · subst hj; simpa using h24
           · exact hA j (by omega)⟩, _, (congrArg (St.mk _) (effM_eq Has.nil).symm)⟩
   ·replace h14 := of_decide_eq_false h14
    refine Wp.exitI ?_
    refine thenX.exit ?_
    refine thenX.exit ?_
    refine blockX.out ?_
    refine goOn ?_
    refine Wp.seqI ?_
    refine Wp.regI I0.mono ?_
    refine GL.assign I0.mono (by conv => lhs; whnf) ?_
    refine GL.doneF ?_
    refine goOn ?_
    refine Wp.retI ?_
    refine RetX.ret ?_
    refine ⟨_, _, _, _, .cons (.tmp rfl) .nil, .frz (.pure rfl), List.nodup_nil, by simp, ?_⟩
    show LV.bool _ = LV.bool _
    congr 1
    symm
    (exact decide_eq_true (same_ext h10e fun j hj => hA j (by omega)))

set_option maxRecDepth 100000 in
set_option maxHeartbeats 4000000 in
theorem samePlan_ok (a b : Plan) (ha : OkP a) (hb : OkP b) : CallsV Try.prog 92 [.agg (kp a), .agg (kp b)] (.bool (exactS a b)) := by
  refine CallsR.intro (I0.sound _) mix Try.func92 rfl rfl (by simp [Try.f92]) (by kernel_rfl) (nb := 0) ?_
  unfold Try.f92
  refine Wp.seqI ?_
  obtain ⟨a1, a2, a3, a4, a5, a6, a7⟩ := ha
  obtain ⟨b1, b2, b3, b4, b5, b6, b7⟩ := hb
  refine Wp.regI I0.mono ?_
  refine GL.box I0.mono (by conv => lhs; whnf) rfl (n := 7) rfl rfl ?_
  intro g2
  refine GL.box I0.mono (by conv => lhs; whnf) rfl (n := 7) rfl rfl ?_
  intro g3
  refine GL.assign I0.mono (by conv => lhs; whnf) ?_
  refine GL.doneF ?_
  refine goOn ?_
  refine Wp.seqI ?_
  refine Wp.seqI ?_
  refine Wp.regI I0.mono ?_
  refine GL.fieldAddr I0.mono (o := 0) rfl rfl rfl rfl (by conv => lhs; whnf) ?_
  refine GL.load I0.mono rfl rfl rfl rfl (by simp) rfl rfl ?_
  refine GL.lenF I0.mono rfl rfl (em_len _ _) ?_
  refine GL.fieldAddr I0.mono (o := 0) rfl rfl rfl rfl (by conv => lhs; whnf) ?_
  refine GL.load I0.mono rfl rfl rfl rfl (by simp) rfl rfl ?_
  refine GL.lenF I0.mono rfl rfl (em_len _ _) ?_
  refine GL.bin I0.mono rfl ?_
  refine GL.doneF ?_
  refine goOn ?_
  refine Wp.condI rfl (fun h12 => ?_) (fun h12 => ?_)
  ·replace h12 := bne_true h12
   refine Wp.seqI ?_
   refine Wp.regI I0.mono ?_
   refine GL.assign I0.mono (by conv => lhs; whnf) ?_
   refine GL.doneF ?_
   refine goOn ?_
   refine Wp.retI ?_
   refine thenX.ret ?_
   refine RetX.ret ?_
   refine ⟨_, _, _, _, .cons (.tmp rfl) .nil, .frz (.pure rfl), List.nodup_nil, by simp, ?_⟩
   show LV.bool _ = LV.bool _
   congr 1
   symm
   unfold exactS
   first
   | (rw [decide_eq_false (show ¬ a.routes = b.routes from fun h => h12 (by rw [h]))]; rfl)
   | (rw [decide_eq_false (show ¬ a.routes = b.routes from fun h => ndecT h30 (by rw [h]))]; rfl)
   | (rw [decide_eq_true (rows_ext hlen fun j hj => hA j (by omega))]; simp_all)
  ·replace h12 := bne_false h12
   have hlen : a.routes.length = b.routes.length := by first | omega | (simp at h12; omega)
   refine Wp.skipI ?_
   refine goOn ?_
   refine Wp.seqI ?_
   refine Wp.seqI ?_
   refine Wp.regI I0.mono ?_
   refine GL.fieldAddr I0.mono (o := 0) rfl rfl rfl rfl (by conv => lhs; whnf) ?_
   refine GL.load I0.mono rfl rfl rfl rfl (by simp) rfl rfl ?_
   refine GL.lenF I0.mono rfl rfl (em_len _ _) ?_
   refine GL.move I0.mono (by conv => lhs; whnf) ?_
   refine GL.doneF ?_
   refine goOn ?_
   refine Wp.blockI ?_
   refine Wp.loopI I0.mono (α := Nat) (fun i st => (i ≤ a.routes.length ∧ ∀ j, j < i → a.routes.getD j default = b.routes.getD j default) ∧ ∃ m0, st = ⟨(updS (updS (updS (updS (fun _ => LV.undef) 2 (.ref 128 g2 0 0)) 3 (.ref 192 g3 0 0)) 15 (.int .i64 (a.routes.length : Int))) 16 (.int .i64 (i : Int))), effM m0 [(128, ⟨g2, false, .var, 7, [kp a]⟩), (192, ⟨g3, false, .var, 7, [kp b]⟩)]⟩) (fun i => a.routes.length - i) 0 ⟨_, (LessS.weak (LessS.upd (LessS.upd (LessS.upd (LessS.upd (LessS.nil _) rfl) rfl) rfl) rfl) _), ⟨by omega, fun j h => by omega⟩, _, (congrArg (St.mk _) (effM_eq (Has.cons rfl (Has.cons rfl Has.nil))).symm)⟩ ?_
   rintro i _ ⟨⟨hi, hA⟩, m0, rfl⟩
   refine Wp.seqI ?_
   refine Wp.regI I0.mono ?_
   refine GL.bin I0.mono rfl ?_
   refine GL.doneF ?_
   refine goOn ?_
   refine Wp.seqI ?_
   refine Wp.condI rfl (fun h17 => ?_) (fun h17 => ?_)
   ·replace h17 := of_decide_eq_true h17
    refine Wp.skipI ?_
    refine goOn ?_
    refine Wp.seqI ?_
    refine Wp.blockI ?_
    refine Wp.seqI ?_
    refine Wp.regI I0.mono ?_
    refine GL.move I0.mono (by conv => lhs; whnf) ?_
    refine GL.assign I0.mono (by conv => lhs; whnf) ?_
    refine GL.doneF ?_
    refine goOn ?_
    refine Wp.seqI ?_
    refine Wp.regD ?_
    refine GL.fieldAddr I0.mono (o := 0) rfl rfl rfl rfl (by conv => lhs; whnf) ?_
    refine GL.load I0.mono rfl rfl rfl rfl (by simp) rfl rfl ?_
    refine GL.move I0.mono (by conv => lhs; whnf) ?_
    refine GL.indexAddrF I0.mono (sz := 1) rfl rfl rfl rfl (by omega) (by rw [em_len]; omega) (by intro e he; obtain ⟨a, -, rfl⟩ := List.mem_map.1 he; rfl) (by with_reducible exact Int.toNat_natCast _) ?_
    refine GL.loadF I0.mono rfl rfl (em_get (by omega)) rfl ?_
    refine GL.fieldAddr I0.mono (o := 0) rfl rfl rfl rfl (by conv => lhs; whnf) ?_
    refine GL.load I0.mono rfl rfl rfl rfl (by simp) rfl rfl ?_
    refine GL.move I0.mono (by conv => lhs; whnf) ?_
    refine GL.indexAddrF I0.mono (sz := 1) rfl rfl rfl rfl (by omega) (by rw [em_len]; omega) (by intro e he; obtain ⟨a, -, rfl⟩ := List.mem_map.1 he; rfl) (by with_reducible exact Int.toNat_natCast _) ?_
    refine GL.loadF I0.mono rfl rfl (em_get (by omega)) rfl ?_
    refine GL.call0 I0.mono rfl (Frz.aggc (by exact Frz.pure rfl) (Frz.aggc (by exact Frz.pure rfl) (Frz.aggn))) (alike_ok _ _ (a2 _ (getD_mem (l := a.routes) (j := i) (by omega))) (b2 _ (getD_mem (l := b.routes) (j := i) (by omega)))) rfl rfl (fun _ => rfl) ?_
    refine GL.un I0.mono rfl ?_
    refine GL.doneT (by kernel_rfl) ?_
    refine goOn ?_
    refine Wp.condI rfl (fun h30 => ?_) (fun h30 => ?_)
    ·skip
     refine Wp.seqI ?_
     refine Wp.regI I0.mono ?_
     refine GL.assign I0.mono (by conv => lhs; whnf) ?_
     refine GL.doneF ?_
     refine goOn ?_
     refine Wp.retI ?_
     refine blockX.ret ?_
     refine thenX.ret ?_
     refine thenX.ret ?_
     refine blockX.ret ?_
     refine thenX.ret ?_
     refine RetX.ret ?_
     refine ⟨_, _, _, _, .cons (.tmp rfl) .nil, .frz (.pure rfl), List.nodup_nil, by simp, ?_⟩
     show LV.bool _ = LV.bool _
     congr 1
     symm
     unfold exactS
     first
     | (rw [decide_eq_false (show ¬ a.routes = b.routes from fun h => h12 (by rw [h]))]; rfl)
     | (rw [decide_eq_false (show ¬ a.routes = b.routes from fun h => ndecT h30 (by rw [h]))]; rfl)
     | (rw [decide_eq_true (rows_ext hlen fun j hj => hA j (by omega))]; simp_all)
    ·skip
     refine Wp.skipI ?_
     refine blockX.normal ?_
     refine goOn ?_
     refine Wp.regI I0.mono ?_
     refine GL.addR I0.mono rfl rfl (by omega) ?_
     refine GL.move I0.mono (by conv => lhs; whnf) ?_
     refine GL.doneF ?_
     refine ⟨i + 1, (by dsimp only; omega), _, (LessS.weak (LessS.upd (LessS.upd (LessS.upd (LessS.upd (LessS.nil _) rfl) rfl) rfl) rfl) _), ⟨by omega, fun j h => by
           by_cases hj : j = i
           · subst hj; exact ndec h30
           · exact hA j (by omega)⟩, _, (congrArg (St.mk _) (effM_eq (Has.cons rfl (Has.cons rfl Has.nil))).symm)⟩
   ·replace h17 := of_decide_eq_false h17
    refine Wp.exitI ?_
    refine thenX.exit ?_
    refine thenX.exit ?_
    refine blockX.out ?_
    refine goOn ?_
    refine Wp.seqI ?_
    refine Wp.regI I0.mono ?_
    refine GL.fieldAddr I0.mono (o := 1) rfl rfl rfl rfl (by conv => lhs; whnf) ?_
    refine GL.load I0.mono rfl rfl rfl rfl (by simp) rfl rfl ?_
    refine GL.fieldAddr I0.mono (o := 1) rfl rfl rfl rfl (by conv => lhs; whnf) ?_
    refine GL.load I0.mono rfl rfl rfl rfl (by simp) rfl rfl ?_
    refine GL.call0 I0.mono rfl (Frz.aggc (by exact Frz.pure rfl) (Frz.aggc (by exact Frz.pure rfl) (Frz.aggn))) (alike_ok _ _ (by omega) (by omega)) rfl rfl (fun _ => rfl) ?_
    refine GL.move I0.mono (by conv => lhs; whnf) ?_
    refine GL.splitAt 37 rfl (fun h37 => ?_) (fun h37 => ?_)
    ·rw [h37]
     replace h37 := of_decide_eq_true h37
     refine GL.guardT rfl ?_
     refine GL.fieldAddr I0.mono (o := 2) rfl rfl rfl rfl (by conv => lhs; whnf) ?_
     refine GL.guardT rfl ?_
     refine GL.load I0.mono rfl rfl rfl rfl (by simp) rfl rfl ?_
     refine GL.guardT rfl ?_
     refine GL.fieldAddr I0.mono (o := 2) rfl rfl rfl rfl (by conv => lhs; whnf) ?_
     refine GL.guardT rfl ?_
     refine GL.load I0.mono rfl rfl rfl rfl (by simp) rfl rfl ?_
     refine GL.guardT rfl ?_
     refine GL.call0 I0.mono rfl (Frz.aggc (by exact Frz.pure rfl) (Frz.aggc (by exact Frz.pure rfl) (Frz.aggn))) (alike_ok _ _ (by omega) (by omega)) rfl rfl (fun _ => rfl) ?_
     refine GL.pick I0.mono rfl (by conv => lhs; whnf) ?_
     refine GL.assign I0.mono (by conv => lhs; whnf) ?_
     refine GL.doneF ?_
     refine goOn ?_
     refine Wp.retI ?_
     refine RetX.ret ?_
     refine ⟨_, _, _, _, .cons (.tmp rfl) .nil, .frz (.pure rfl), List.nodup_nil, by simp, ?_⟩
     show LV.bool _ = LV.bool _
     congr 1
     symm
     unfold exactS
     first
     | (rw [decide_eq_false (show ¬ a.routes = b.routes from fun h => h12 (by rw [h]))]; rfl)
     | (rw [decide_eq_false (show ¬ a.routes = b.routes from fun h => ndecT h30 (by rw [h]))]; rfl)
     | (rw [decide_eq_true (rows_ext hlen fun j hj => hA j (by omega))]; simp_all)
    ·rw [h37]
     replace h37 := of_decide_eq_false h37
     refine GL.guardF rfl ?_
     refine GL.guardF rfl ?_
     refine GL.guardF rfl ?_
     refine GL.guardF rfl ?_
     refine GL.guardF rfl ?_
     refine GL.pick I0.mono rfl (by conv => lhs; whnf) ?_
     refine GL.assign I0.mono (by conv => lhs; whnf) ?_
     refine GL.doneF ?_
     refine goOn ?_
     refine Wp.retI ?_
     refine RetX.ret ?_
     refine ⟨_, _, _, _, .cons (.tmp rfl) .nil, .frz (.pure rfl), List.nodup_nil, by simp, ?_⟩
     show LV.bool _ = LV.bool _
     congr 1
     symm
     unfold exactS
     first
     | (rw [decide_eq_false (show ¬ a.routes = b.routes from fun h => h12 (by rw [h]))]; rfl)
     | (rw [decide_eq_false (show ¬ a.routes = b.routes from fun h => ndecT h30 (by rw [h]))]; rfl)
     | (rw [decide_eq_true (rows_ext hlen fun j hj => hA j (by omega))]; simp_all)

set_option maxRecDepth 100000 in
set_option maxHeartbeats 4000000 in
theorem exact_ok (a b : Plan) (ha : OkP a) (hb : OkP b) : CallsV Try.prog 41 [.agg (kp a), .agg (kp b)] (.bool (exactB a b)) := by
  refine CallsR.intro (I0.sound _) mix Try.func41 rfl rfl (by simp [Try.f41]) (by kernel_rfl) (nb := 0) ?_
  unfold Try.f41
  refine Wp.seqI ?_
  have ⟨a1, a2, a3, a4, a5, a6, a7⟩ := ha
  have ⟨b1, b2, b3, b4, b5, b6, b7⟩ := hb
  refine Wp.regI I0.mono ?_
  refine GL.box I0.mono (by conv => lhs; whnf) rfl (n := 7) rfl rfl ?_
  intro g2
  refine GL.box I0.mono (by conv => lhs; whnf) rfl (n := 7) rfl rfl ?_
  intro g3
  refine GL.assign I0.mono (by conv => lhs; whnf) ?_
  refine GL.doneF ?_
  refine goOn ?_
  refine Wp.seqI ?_
  refine Wp.regI I0.mono ?_
  refine GL.loadW I0.mono (n := 7) rfl rfl rfl rfl (by simp) rfl rfl rfl ?_
  refine GL.loadW I0.mono (n := 7) rfl rfl rfl rfl (by simp) rfl rfl rfl ?_
  refine GL.call0 I0.mono rfl (Frz.aggc (by exact Frz.pures rfl) (Frz.aggc (by exact Frz.pures rfl) (Frz.aggn))) (samePlan_ok a b ha hb) rfl rfl (fun _ => rfl) ?_
  refine GL.move I0.mono (by conv => lhs; whnf) ?_
  refine GL.splitAt 8 rfl (fun h8 => ?_) (fun h8 => ?_)
  ·rw [h8]
   skip
   refine GL.guardT rfl ?_
   refine GL.fieldAddr I0.mono (o := 3) rfl rfl rfl rfl (by conv => lhs; whnf) ?_
   refine GL.guardT rfl ?_
   refine GL.load I0.mono rfl rfl rfl rfl (by simp) rfl rfl ?_
   refine GL.guardT rfl ?_
   refine GL.fieldAddr I0.mono (o := 3) rfl rfl rfl rfl (by conv => lhs; whnf) ?_
   refine GL.guardT rfl ?_
   refine GL.load I0.mono rfl rfl rfl rfl (by simp) rfl rfl ?_
   refine GL.guardT rfl ?_
   refine GL.call0 I0.mono rfl (Frz.aggc (by exact Frz.pure rfl) (Frz.aggc (by exact Frz.pure rfl) (Frz.aggn))) (alike_ok _ _ (by omega) (by omega)) rfl rfl (fun _ => rfl) ?_
   refine GL.pick I0.mono rfl (by conv => lhs; whnf) ?_
   refine GL.move I0.mono (by conv => lhs; whnf) ?_
   refine GL.splitAt 15 rfl (fun h15 => ?_) (fun h15 => ?_)
   ·rw [h15]
    replace h15 := of_decide_eq_true h15
    refine GL.guardT rfl ?_
    refine GL.fieldAddr I0.mono (o := 4) rfl rfl rfl rfl (by conv => lhs; whnf) ?_
    refine GL.guardT rfl ?_
    refine GL.load I0.mono rfl rfl rfl rfl (by simp) rfl rfl ?_
    refine GL.guardT rfl ?_
    refine GL.fieldAddr I0.mono (o := 4) rfl rfl rfl rfl (by conv => lhs; whnf) ?_
    refine GL.guardT rfl ?_
    refine GL.load I0.mono rfl rfl rfl rfl (by simp) rfl rfl ?_
    refine GL.guardT rfl ?_
    refine GL.call0 I0.mono rfl (Frz.aggc (by exact Frz.pure rfl) (Frz.aggc (by exact Frz.pure rfl) (Frz.aggn))) (alike_ok _ _ (by omega) (by omega)) rfl rfl (fun _ => rfl) ?_
    refine GL.pick I0.mono rfl (by conv => lhs; whnf) ?_
    refine GL.move I0.mono (by conv => lhs; whnf) ?_
    refine GL.splitAt 22 rfl (fun h22 => ?_) (fun h22 => ?_)
    ·rw [h22]
     replace h22 := of_decide_eq_true h22
     refine GL.guardT rfl ?_
     refine GL.fieldAddr I0.mono (o := 5) rfl rfl rfl rfl (by conv => lhs; whnf) ?_
     refine GL.guardT rfl ?_
     refine GL.load I0.mono rfl rfl rfl rfl (by simp) rfl rfl ?_
     refine GL.guardT rfl ?_
     refine GL.fieldAddr I0.mono (o := 5) rfl rfl rfl rfl (by conv => lhs; whnf) ?_
     refine GL.guardT rfl ?_
     refine GL.load I0.mono rfl rfl rfl rfl (by simp) rfl rfl ?_
     refine GL.guardT rfl ?_
     refine GL.call0 I0.mono rfl (Frz.aggc (by exact Frz.pure rfl) (Frz.aggc (by exact Frz.pure rfl) (Frz.aggn))) (alike_ok _ _ (by omega) (by omega)) rfl rfl (fun _ => rfl) ?_
     refine GL.pick I0.mono rfl (by conv => lhs; whnf) ?_
     refine GL.move I0.mono (by conv => lhs; whnf) ?_
     refine GL.splitAt 29 rfl (fun h29 => ?_) (fun h29 => ?_)
     ·rw [h29]
      replace h29 := of_decide_eq_true h29
      refine GL.guardT rfl ?_
      refine GL.fieldAddr I0.mono (o := 6) rfl rfl rfl rfl (by conv => lhs; whnf) ?_
      refine GL.guardT rfl ?_
      refine GL.load I0.mono rfl rfl rfl rfl (by simp) rfl rfl ?_
      refine GL.guardT rfl ?_
      refine GL.fieldAddr I0.mono (o := 6) rfl rfl rfl rfl (by conv => lhs; whnf) ?_
      refine GL.guardT rfl ?_
      refine GL.load I0.mono rfl rfl rfl rfl (by simp) rfl rfl ?_
      refine GL.guardT rfl ?_
      refine GL.bin I0.mono rfl ?_
      refine GL.pick I0.mono rfl (by conv => lhs; whnf) ?_
      refine GL.assign I0.mono (by conv => lhs; whnf) ?_
      refine GL.doneF ?_
      refine goOn ?_
      refine Wp.retI ?_
      refine RetX.ret ?_
      refine ⟨_, _, _, _, .cons (.tmp rfl) .nil, .frz (.pure rfl), List.nodup_nil, by simp, ?_⟩
      show LV.bool _ = LV.bool _
      congr 1
      unfold exactB
      (simp_all; done)
     ·rw [h29]
      replace h29 := of_decide_eq_false h29
      refine GL.guardF rfl ?_
      refine GL.guardF rfl ?_
      refine GL.guardF rfl ?_
      refine GL.guardF rfl ?_
      refine GL.guardF rfl ?_
      refine GL.pick I0.mono rfl (by conv => lhs; whnf) ?_
      refine GL.assign I0.mono (by conv => lhs; whnf) ?_
      refine GL.doneF ?_
      refine goOn ?_
      refine Wp.retI ?_
      refine RetX.ret ?_
      refine ⟨_, _, _, _, .cons (.tmp rfl) .nil, .frz (.pure rfl), List.nodup_nil, by simp, ?_⟩
      show LV.bool _ = LV.bool _
      congr 1
      unfold exactB
      (simp_all; done)
    ·rw [h22]
     replace h22 := of_decide_eq_false h22
     refine GL.guardF rfl ?_
     refine GL.guardF rfl ?_
     refine GL.guardF rfl ?_
     refine GL.guardF rfl ?_
     refine GL.guardF rfl ?_
     refine GL.pick I0.mono rfl (by conv => lhs; whnf) ?_
     refine GL.move I0.mono (by conv => lhs; whnf) ?_
     refine GL.guardF rfl ?_
     refine GL.guardF rfl ?_
     refine GL.guardF rfl ?_
     refine GL.guardF rfl ?_
     refine GL.guardF rfl ?_
     refine GL.pick I0.mono rfl (by conv => lhs; whnf) ?_
     refine GL.assign I0.mono (by conv => lhs; whnf) ?_
     refine GL.doneF ?_
     refine goOn ?_
     refine Wp.retI ?_
     refine RetX.ret ?_
     refine ⟨_, _, _, _, .cons (.tmp rfl) .nil, .frz (.pure rfl), List.nodup_nil, by simp, ?_⟩
     show LV.bool _ = LV.bool _
     congr 1
     unfold exactB
     (simp_all; done)
   ·rw [h15]
    replace h15 := of_decide_eq_false h15
    refine GL.guardF rfl ?_
    refine GL.guardF rfl ?_
    refine GL.guardF rfl ?_
    refine GL.guardF rfl ?_
    refine GL.guardF rfl ?_
    refine GL.pick I0.mono rfl (by conv => lhs; whnf) ?_
    refine GL.move I0.mono (by conv => lhs; whnf) ?_
    refine GL.guardF rfl ?_
    refine GL.guardF rfl ?_
    refine GL.guardF rfl ?_
    refine GL.guardF rfl ?_
    refine GL.guardF rfl ?_
    refine GL.pick I0.mono rfl (by conv => lhs; whnf) ?_
    refine GL.move I0.mono (by conv => lhs; whnf) ?_
    refine GL.guardF rfl ?_
    refine GL.guardF rfl ?_
    refine GL.guardF rfl ?_
    refine GL.guardF rfl ?_
    refine GL.guardF rfl ?_
    refine GL.pick I0.mono rfl (by conv => lhs; whnf) ?_
    refine GL.assign I0.mono (by conv => lhs; whnf) ?_
    refine GL.doneF ?_
    refine goOn ?_
    refine Wp.retI ?_
    refine RetX.ret ?_
    refine ⟨_, _, _, _, .cons (.tmp rfl) .nil, .frz (.pure rfl), List.nodup_nil, by simp, ?_⟩
    show LV.bool _ = LV.bool _
    congr 1
    unfold exactB
    (simp_all; done)
  ·rw [h8]
   skip
   refine GL.guardF rfl ?_
   refine GL.guardF rfl ?_
   refine GL.guardF rfl ?_
   refine GL.guardF rfl ?_
   refine GL.guardF rfl ?_
   refine GL.pick I0.mono rfl (by conv => lhs; whnf) ?_
   refine GL.move I0.mono (by conv => lhs; whnf) ?_
   refine GL.guardF rfl ?_
   refine GL.guardF rfl ?_
   refine GL.guardF rfl ?_
   refine GL.guardF rfl ?_
   refine GL.guardF rfl ?_
   refine GL.pick I0.mono rfl (by conv => lhs; whnf) ?_
   refine GL.move I0.mono (by conv => lhs; whnf) ?_
   refine GL.guardF rfl ?_
   refine GL.guardF rfl ?_
   refine GL.guardF rfl ?_
   refine GL.guardF rfl ?_
   refine GL.guardF rfl ?_
   refine GL.pick I0.mono rfl (by conv => lhs; whnf) ?_
   refine GL.move I0.mono (by conv => lhs; whnf) ?_
   refine GL.guardF rfl ?_
   refine GL.guardF rfl ?_
   refine GL.guardF rfl ?_
   refine GL.guardF rfl ?_
   refine GL.guardF rfl ?_
   refine GL.pick I0.mono rfl (by conv => lhs; whnf) ?_
   refine GL.assign I0.mono (by conv => lhs; whnf) ?_
   refine GL.doneF ?_
   refine goOn ?_
   refine Wp.retI ?_
   refine RetX.ret ?_
   refine ⟨_, _, _, _, .cons (.tmp rfl) .nil, .frz (.pure rfl), List.nodup_nil, by simp, ?_⟩
   show LV.bool _ = LV.bool _
   congr 1
   unfold exactB
   (simp_all; done)

set_option maxRecDepth 100000 in
set_option maxHeartbeats 4000000 in
theorem eqRows_ok (l l' : List (List Int)) (hl : l.length ≤ 1000000) (hl' : l'.length ≤ 1000000) (he : ∀ r ∈ l, r.length ≤ 1000000) (he' : ∀ r ∈ l', r.length ≤ 1000000) : CallsV Try.prog 96 [.sl (em nr l), .sl (em nr l'), .fn 63 []] (.bool (decide (l = l'))) := by
  refine CallsR.intro (I0.sound _) mix Try.func96 rfl rfl (by simp [Try.f96]) (by kernel_rfl) (nb := 0) ?_
  unfold Try.f96
  refine Wp.seqI ?_
  refine Wp.regI I0.mono ?_
  refine GL.assign I0.mono (by conv => lhs; whnf) ?_
  refine GL.doneF ?_
  refine goOn ?_
  refine Wp.seqI ?_
  refine Wp.seqI ?_
  refine Wp.regI I0.mono ?_
  refine GL.move I0.mono (by conv => lhs; whnf) ?_
  refine GL.lenF I0.mono rfl rfl (em_len _ _) ?_
  refine GL.move I0.mono (by conv => lhs; whnf) ?_
  refine GL.lenF I0.mono rfl rfl (em_len _ _) ?_
  refine GL.bin I0.mono rfl ?_
  refine GL.doneF ?_
  refine goOn ?_
  refine Wp.condI rfl (fun h14 => ?_) (fun h14 => ?_)
  ·replace h14 := bne_true h14
   refine Wp.seqI ?_
   refine Wp.regI I0.mono ?_
   refine GL.assign I0.mono (by conv => lhs; whnf) ?_
   refine GL.doneF ?_
   refine goOn ?_
   refine Wp.retI ?_
   refine thenX.ret ?_
   refine RetX.ret ?_
   refine ⟨_, _, _, _, .cons (.tmp rfl) .nil, .frz (.pure rfl), List.nodup_nil, by simp, ?_⟩
   show LV.bool _ = LV.bool _
   congr 1
   symm
   (refine decide_eq_false (fun h => ?_); subst h; simp at h14; done)
  ·replace h14 := bne_false h14
   have hlen : l.length = l'.length := by first | omega | (simp at h14; omega)
   refine Wp.skipI ?_
   refine goOn ?_
   refine Wp.seqI ?_
   refine Wp.seqI ?_
   refine Wp.regI I0.mono ?_
   refine GL.move I0.mono (by conv => lhs; whnf) ?_
   refine GL.lenF I0.mono rfl rfl (em_len _ _) ?_
   refine GL.move I0.mono (by conv => lhs; whnf) ?_
   refine GL.doneF ?_
   refine goOn ?_
   refine Wp.blockI ?_
   refine Wp.loopI I0.mono (α := Nat) (fun i st => (i ≤ l.length ∧ ∀ j, j < i → l.getD j default = l'.getD j default) ∧ ∃ m0, st = ⟨(updS (updS (updS (updS (updS (fun _ => LV.undef) 1 (.sl (em nr l'))) 2 (.fn 63 [])) 15 (.sl (em nr l))) 16 (.int .i64 (l.length : Int))) 17 (.int .i64 (i : Int))), effM m0 []⟩) (fun i => l.length - i) 0 ⟨_, (LessS.weak (LessS.upd (LessS.upd (LessS.upd (LessS.upd (LessS.upd (LessS.nil _) rfl) rfl) rfl) rfl) rfl) _), ⟨by omega, fun j h => by omega⟩, _, (congrArg (St.mk _) (effM_eq Has.nil).symm)⟩ ?_
   rintro i _ ⟨⟨hi, hA⟩, m0, rfl⟩
   refine Wp.seqI ?_
   refine Wp.regI I0.mono ?_
   refine GL.bin I0.mono rfl ?_
   refine GL.doneF ?_
   refine goOn ?_
   refine Wp.seqI ?_
   refine Wp.condI rfl (fun h18 => ?_) (fun h18 => ?_)
   ·replace h18 := of_decide_eq_true h18
    refine Wp.skipI ?_
    refine goOn ?_
    refine Wp.seqI ?_
    refine Wp.blockI ?_
    refine Wp.seqI ?_
    refine Wp.regI I0.mono ?_
    refine GL.move I0.mono (by conv => lhs; whnf) ?_
    refine GL.indexAddrF I0.mono (sz := 1) rfl rfl rfl rfl (by omega) (by (rw [em_len]; omega)) (by intro e he; obtain ⟨a, -, rfl⟩ := List.mem_map.1 he; rfl) (by with_reducible exact Int.toNat_natCast _) ?_
    refine GL.loadF I0.mono rfl rfl (em_get (by omega)) rfl ?_
    refine GL.assign I0.mono (by conv => lhs; whnf) ?_
    refine GL.assign I0.mono (by conv => lhs; whnf) ?_
    refine GL.doneF ?_
    refine goOn ?_
    refine Wp.seqI ?_
    refine Wp.regI I0.mono ?_
    refine GL.move I0.mono (by conv => lhs; whnf) ?_
    refine GL.move I0.mono (by conv => lhs; whnf) ?_
    refine GL.indexAddrF I0.mono (sz := 1) rfl rfl rfl rfl (by omega) (by rw [em_len]; omega) (by intro e he; obtain ⟨a, -, rfl⟩ := List.mem_map.1 he; rfl) (by with_reducible exact Int.toNat_natCast _) ?_
    refine GL.loadF I0.mono rfl rfl (em_get (by omega)) rfl ?_
    refine GL.assign I0.mono (by conv => lhs; whnf) ?_
    refine GL.doneF ?_
    refine goOn ?_
    refine Wp.seqI ?_
    refine Wp.regI I0.mono ?_
    refine GL.move I0.mono (by conv => lhs; whnf) ?_
    refine GL.move I0.mono (by conv => lhs; whnf) ?_
    refine GL.move I0.mono (by conv => lhs; whnf) ?_
    refine GL.call0 I0.mono rfl (Frz.aggc (Frz.pure rfl) (Frz.aggc (Frz.pure rfl) Frz.aggn)) (equal_ok _ _ (by have := he _ (getD_mem (l := l) (j := i) (by omega)); unfold Short; omega) (by have := he' _ (getD_mem (l := l') (j := i) (by omega)); omega)) rfl rfl (fun _ => rfl) ?_
    refine GL.un I0.mono rfl ?_
    refine GL.doneF ?_
    refine goOn ?_
    refine Wp.condI rfl (fun h30 => ?_) (fun h30 => ?_)
    ·skip
     refine Wp.seqI ?_
     refine Wp.regI I0.mono ?_
     refine GL.assign I0.mono (by conv => lhs; whnf) ?_
     refine GL.doneF ?_
     refine goOn ?_
     refine Wp.retI ?_
     refine blockX.ret ?_
     refine thenX.ret ?_
     refine thenX.ret ?_
     refine blockX.ret ?_
     refine thenX.ret ?_
     refine RetX.ret ?_
     refine ⟨_, _, _, _, .cons (.tmp rfl) .nil, .frz (.pure rfl), List.nodup_nil, by simp, ?_⟩
     show LV.bool _ = LV.bool _
     congr 1
     symm
     (refine decide_eq_false (fun h => ?_); subst h; simp at h30; done)
    ·skip
     refine Wp.skipI ?_
     refine blockX.normal ?_
     refine goOn ?_
     refine Wp.regI I0.mono ?_
     refine GL.addR I0.mono rfl rfl (by omega) ?_
     refine GL.move I0.mono (by conv => lhs; whnf) ?_
     refine GL.doneF ?_
     refine ⟨i + 1, (by dsimp only; omega), _, (LessS.weak (LessS.upd (LessS.upd (LessS.upd (LessS.upd (LessS.upd (LessS.nil _) rfl) rfl) rfl) rfl) rfl) _), ⟨by omega, fun j h => by
           by_cases hj : j = i
           · subst hj; exact ndec h30
           · exact hA j (by omega)⟩, _, (congrArg (St.mk _) (effM_eq Has.nil).symm)⟩
   ·replace h18 := of_decide_eq_false h18
    refine Wp.exitI ?_
    refine thenX.exit ?_
    refine thenX.exit ?_
    refine blockX.out ?_
    refine goOn ?_
    refine Wp.seqI ?_
    refine Wp.regI I0.mono ?_
    refine GL.assign I0.mono (by conv => lhs; whnf) ?_
    refine GL.doneF ?_
    refine goOn ?_
    refine Wp.retI ?_
    refine RetX.ret ?_
    refine ⟨_, _, _, _, .cons (.tmp rfl) .nil, .frz (.pure rfl), List.nodup_nil, by simp, ?_⟩
    show LV.bool _ = LV.bool _
    congr 1
    symm
    (exact decide_eq_true (rows_ext hlen fun j hj => hA j (by omega)))

set_option maxRecDepth 100000 in
set_option maxHeartbeats 4000000 in
theorem psame_ok (a b : Plan) (ha : OkP a) (hb : OkP b) : CallsV Try.prog 45 [.agg (kp a), .agg (kp b)] (.bool (exactS a b)) := by
  refine CallsR.intro (I0.sound _) mix Try.func45 rfl rfl (by simp [Try.f45]) (by kernel_rfl) (nb := 0) ?_
  unfold Try.f45
  refine Wp.seqI ?_
  have ⟨a1, a2, a3, a4, a5, a6, a7⟩ := ha
  have ⟨b1, b2, b3, b4, b5, b6, b7⟩ := hb
  refine Wp.regI I0.mono ?_
  refine GL.box I0.mono (by conv => lhs; whnf) rfl (n := 7) rfl rfl ?_
  intro g2
  refine GL.box I0.mono (by conv => lhs; whnf) rfl (n := 7) rfl rfl ?_
  intro g3
  refine GL.assign I0.mono (by conv => lhs; whnf) ?_
  refine GL.doneF ?_
  refine goOn ?_
  refine Wp.seqI ?_
  refine Wp.regI I0.mono ?_
  refine GL.fieldAddr I0.mono (o := 0) rfl rfl rfl rfl (by conv => lhs; whnf) ?_
  refine GL.load I0.mono rfl rfl rfl rfl (by simp) rfl rfl ?_
  refine GL.fieldAddr I0.mono (o := 0) rfl rfl rfl rfl (by conv => lhs; whnf) ?_
  refine GL.load I0.mono rfl rfl rfl rfl (by simp) rfl rfl ?_
  refine GL.call0 I0.mono rfl (Frz.aggc (by exact Frz.pure rfl) (Frz.aggc (by exact Frz.pure rfl) (Frz.aggc (by exact Frz.fn Frz.aggn) (Frz.aggn)))) (eqRows_ok _ _ a1 b1 a2 b2) rfl rfl (fun _ => rfl) ?_
  refine GL.move I0.mono (by conv => lhs; whnf) ?_
  refine GL.splitAt 10 rfl (fun h10 => ?_) (fun h10 => ?_)
  ·rw [h10]
   replace h10 := of_decide_eq_true h10
   refine GL.guardT rfl ?_
   refine GL.fieldAddr I0.mono (o := 1) rfl rfl rfl rfl (by conv => lhs; whnf) ?_
   refine GL.guardT rfl ?_
   refine GL.load I0.mono rfl rfl rfl rfl (by simp) rfl rfl ?_
   refine GL.guardT rfl ?_
   refine GL.fieldAddr I0.mono (o := 1) rfl rfl rfl rfl (by conv => lhs; whnf) ?_
   refine GL.guardT rfl ?_
   refine GL.load I0.mono rfl rfl rfl rfl (by simp) rfl rfl ?_
   refine GL.guardT rfl ?_
   refine GL.call0 I0.mono rfl (Frz.aggc (by exact Frz.pure rfl) (Frz.aggc (by exact Frz.pure rfl) (Frz.aggn))) (equal_ok _ _ (by unfold Short; omega) (by omega)) rfl rfl (fun _ => rfl) ?_
   refine GL.pick I0.mono rfl (by conv => lhs; whnf) ?_
   refine GL.move I0.mono (by conv => lhs; whnf) ?_
   refine GL.splitAt 17 rfl (fun h17 => ?_) (fun h17 => ?_)
   ·rw [h17]
    replace h17 := of_decide_eq_true h17
    refine GL.guardT rfl ?_
    refine GL.fieldAddr I0.mono (o := 2) rfl rfl rfl rfl (by conv => lhs; whnf) ?_
    refine GL.guardT rfl ?_
    refine GL.load I0.mono rfl rfl rfl rfl (by simp) rfl rfl ?_
    refine GL.guardT rfl ?_
    refine GL.fieldAddr I0.mono (o := 2) rfl rfl rfl rfl (by conv => lhs; whnf) ?_
    refine GL.guardT rfl ?_
    refine GL.load I0.mono rfl rfl rfl rfl (by simp) rfl rfl ?_
    refine GL.guardT rfl ?_
    refine GL.call0 I0.mono rfl (Frz.aggc (by exact Frz.pure rfl) (Frz.aggc (by exact Frz.pure rfl) (Frz.aggn))) (equal_ok _ _ (by unfold Short; omega) (by omega)) rfl rfl (fun _ => rfl) ?_
    refine GL.pick I0.mono rfl (by conv => lhs; whnf) ?_
    refine GL.assign I0.mono (by conv => lhs; whnf) ?_
    refine GL.doneF ?_
    refine goOn ?_
    refine Wp.retI ?_
    refine RetX.ret ?_
    refine ⟨_, _, _, _, .cons (.tmp rfl) .nil, .frz (.pure rfl), List.nodup_nil, by simp, ?_⟩
    show LV.bool _ = LV.bool _
    congr 1
    unfold exactS
    (simp_all; done)
   ·rw [h17]
    replace h17 := of_decide_eq_false h17
    refine GL.guardF rfl ?_
    refine GL.guardF rfl ?_
    refine GL.guardF rfl ?_
    refine GL.guardF rfl ?_
    refine GL.guardF rfl ?_
    refine GL.pick I0.mono rfl (by conv => lhs; whnf) ?_
    refine GL.assign I0.mono (by conv => lhs; whnf) ?_
    refine GL.doneF ?_
    refine goOn ?_
    refine Wp.retI ?_
    refine RetX.ret ?_
    refine ⟨_, _, _, _, .cons (.tmp rfl) .nil, .frz (.pure rfl), List.nodup_nil, by simp, ?_⟩
    show LV.bool _ = LV.bool _
    congr 1
    unfold exactS
    (simp_all; done)
  ·rw [h10]
   replace h10 := of_decide_eq_false h10
   refine GL.guardF rfl ?_
   refine GL.guardF rfl ?_
   refine GL.guardF rfl ?_
   refine GL.guardF rfl ?_
   refine GL.guardF rfl ?_
   refine GL.pick I0.mono rfl (by conv => lhs; whnf) ?_
   refine GL.move I0.mono (by conv => lhs; whnf) ?_
   refine GL.guardF rfl ?_
   refine GL.guardF rfl ?_
   refine GL.guardF rfl ?_
   refine GL.guardF rfl ?_
   refine GL.guardF rfl ?_
   refine GL.pick I0.mono rfl (by conv => lhs; whnf) ?_
   refine GL.assign I0.mono (by conv => lhs; whnf) ?_
   refine GL.doneF ?_
   refine goOn ?_
   refine Wp.retI ?_
   refine RetX.ret ?_
   refine ⟨_, _, _, _, .cons (.tmp rfl) .nil, .frz (.pure rfl), List.nodup_nil, by simp, ?_⟩
   show LV.bool _ = LV.bool _
   congr 1
   unfold exactS
   (simp_all; done)

def costP (i : Inst) (R : List (List Int)) : Int := R.foldl (fun s r => wadd s (cost i r)) 0
theorem cost_snoc (i : Inst) (R : List (List Int)) {k : Nat} (h : k < R.length) : costP i (R.take (k + 1)) = wadd (costP i (R.take k)) (cost i (R.getD k default)) := by
  rw [take_snocG h, costP, List.foldl_append]
  rfl
def unassL (R : List (List Int)) (n : Nat) : List Int := ((List.range' 1 (n - 1)).filter fun s : Nat => decide ((whereR R (s : Int)).1 < 0)).map fun s : Nat => (s : Int)
theorem unass_len (R : List (List Int)) (n : Nat) : (unassL R n).length ≤ n := by
  unfold unassL
  rw [List.length_map]
  refine Nat.le_trans (List.length_filter_le _ _) ?_
  simp
theorem unass_yes {R : List (List Int)} {n : Nat} (h0 : 1 ≤ n) (h : (whereR R (n : Int)).1 < 0) : unassL R (n + 1) = unassL R n ++ [(n : Int)] := by
  obtain ⟨k, rfl⟩ : ∃ k, n = k + 1 := ⟨n - 1, by omega⟩
  unfold unassL
  rw [show k + 1 + 1 - 1 = k + 1 by omega, show k + 1 - 1 = k by omega, List.range'_concat, List.filter_append, List.map_append, Nat.one_mul, show 1 + k = k + 1 by omega]
  congr 1
  simp only [List.filter_cons, decide_eq_true h, if_true, List.filter_nil, List.map_cons, List.map_nil]
theorem unass_no {R : List (List Int)} {n : Nat} (h0 : 1 ≤ n) (h : ¬ (whereR R (n : Int)).1 < 0) : unassL R (n + 1) = unassL R n := by
  obtain ⟨k, rfl⟩ : ∃ k, n = k + 1 := ⟨n - 1, by omega⟩
  unfold unassL
  rw [show k + 1 + 1 - 1 = k + 1 by omega, show k + 1 - 1 = k by omega, List.range'_concat, List.filter_append, List.map_append, Nat.one_mul, show 1 + k = k + 1 by omega]
  simp only [List.filter_cons, decide_eq_false h, Bool.false_eq_true, if_false, List.filter_nil, List.map_nil, List.append_nil]

set_option maxRecDepth 100000 in
set_option maxHeartbeats 4000000 in
theorem pcost_ok (i : Inst) (hs : i.Short) (p : Plan) (hp : OkP p) : CallsV Try.prog 43 [ei i, .agg (kp p)] (.int .i64 (costP i p.routes)) := by
  refine CallsR.intro (I0.sound _) mix Try.func43 rfl rfl (by simp [Try.f43]) (by kernel_rfl) (nb := 0) ?_
  unfold Try.f43
  refine Wp.seqI ?_
  have ⟨p1, p2, p3, p4, p5, p6, p7⟩ := hp
  refine Wp.regI I0.mono ?_
  refine GL.box I0.mono (by conv => lhs; whnf) rfl (n := 4) rfl rfl ?_
  intro g2
  refine GL.box I0.mono (by conv => lhs; whnf) rfl (n := 7) rfl rfl ?_
  intro g3
  refine GL.assign I0.mono (by conv => lhs; whnf) ?_
  refine GL.doneF ?_
  refine goOn ?_
  refine Wp.seqI ?_
  refine Wp.regI I0.mono ?_
  refine GL.assign I0.mono (by conv => lhs; whnf) ?_
  refine GL.doneF ?_
  refine goOn ?_
  refine Wp.seqI ?_
  refine Wp.seqI ?_
  refine Wp.regI I0.mono ?_
  refine GL.fieldAddr I0.mono (o := 0) rfl rfl rfl rfl (by conv => lhs; whnf) ?_
  refine GL.load I0.mono rfl rfl rfl rfl (by simp) rfl rfl ?_
  refine GL.lenF I0.mono rfl rfl (em_len _ _) ?_
  refine GL.move I0.mono (by conv => lhs; whnf) ?_
  refine GL.doneF ?_
  refine goOn ?_
  refine Wp.blockI ?_
  refine Wp.loopI I0.mono (α := Nat × Int) (fun ⟨k, s⟩ st => (k ≤ p.routes.length ∧ s = costP i (p.routes.take k)) ∧ ∃ m0, st = ⟨(updS (updS (updS (updS (updS (fun _ => LV.undef) 2 (.ref 128 g2 0 0)) 5 (.int .i64 s)) 9 (.sl (em nr p.routes))) 10 (.int .i64 (p.routes.length : Int))) 11 (.int .i64 (k : Int))), effM m0 [(128, ⟨g2, false, .var, 4, [ic i]⟩)]⟩) (fun ⟨k, s⟩ => p.routes.length - k) ⟨0, 0⟩ ⟨_, (LessS.weak (LessS.upd (LessS.upd (LessS.upd (LessS.upd (LessS.upd (LessS.nil _) rfl) rfl) rfl) rfl) rfl) _), ⟨Nat.zero_le _, rfl⟩, _, (congrArg (St.mk _) (effM_eq (Has.cons rfl Has.nil)).symm)⟩ ?_
  rintro ⟨k, s⟩ _ ⟨⟨hk, hA⟩, m0, rfl⟩
  refine Wp.seqI ?_
  refine Wp.regI I0.mono ?_
  refine GL.bin I0.mono rfl ?_
  refine GL.doneF ?_
  refine goOn ?_
  refine Wp.seqI ?_
  refine Wp.condI rfl (fun h12 => ?_) (fun h12 => ?_)
  ·replace h12 := of_decide_eq_true h12
   refine Wp.skipI ?_
   refine goOn ?_
   refine Wp.seqI ?_
   refine Wp.blockI ?_
   refine Wp.seqI ?_
   refine Wp.regI I0.mono ?_
   refine GL.indexAddrF I0.mono (sz := 1) rfl rfl rfl rfl (by omega) (by (rw [em_len]; omega)) (by intro e he; obtain ⟨a, -, rfl⟩ := List.mem_map.1 he; rfl) (by with_reducible exact Int.toNat_natCast _) ?_
   refine GL.loadF I0.mono rfl rfl (em_get (by omega)) rfl ?_
   refine GL.assign I0.mono (by conv => lhs; whnf) ?_
   refine GL.doneF ?_
   refine goOn ?_
   refine Wp.regI I0.mono ?_
   refine GL.move I0.mono (by conv => lhs; whnf) ?_
   refine GL.loadW I0.mono (n := 4) rfl rfl rfl rfl (by simp) rfl rfl rfl ?_
   refine GL.move I0.mono (by conv => lhs; whnf) ?_
   refine GL.call0 I0.mono rfl (Frz.aggc (by exact Frz.pures rfl) (Frz.aggc (by exact Frz.pure rfl) (Frz.aggn))) (cost_ok i hs _ (by have := p2 _ (getD_mem (l := p.routes) (j := k) (by omega)); unfold Short; omega)) rfl rfl (fun _ => rfl) ?_
   refine GL.bin I0.mono rfl ?_
   refine GL.assign I0.mono (by conv => lhs; whnf) ?_
   refine GL.doneF ?_
   refine blockX.normal ?_
   refine goOn ?_
   refine Wp.regI I0.mono ?_
   refine GL.addR I0.mono rfl rfl (by omega) ?_
   refine GL.move I0.mono (by conv => lhs; whnf) ?_
   refine GL.doneF ?_
   refine ⟨⟨k + 1, _⟩, (by dsimp only; omega), _, (LessS.weak (LessS.upd (LessS.upd (LessS.upd (LessS.upd (LessS.upd (LessS.nil _) rfl) rfl) rfl) rfl) rfl) _), ⟨by omega, by rw [cost_snoc _ _ (by omega), ← hA]; rfl⟩, _, (congrArg (St.mk _) (effM_eq (Has.cons rfl Has.nil)).symm)⟩
  ·replace h12 := of_decide_eq_false h12
   refine Wp.exitI ?_
   refine thenX.exit ?_
   refine thenX.exit ?_
   refine blockX.out ?_
   refine goOn ?_
   refine Wp.seqI ?_
   refine Wp.regI I0.mono ?_
   refine GL.move I0.mono (by conv => lhs; whnf) ?_
   refine GL.assign I0.mono (by conv => lhs; whnf) ?_
   refine GL.doneF ?_
   refine goOn ?_
   refine Wp.retI ?_
   refine RetX.ret ?_
   refine ⟨_, _, _, _, .cons (.tmp rfl) .nil, .frz (.pure rfl), List.nodup_nil, by simp, ?_⟩
   show LV.int _ _ = LV.int _ _
   rw [hA, List.take_of_length_le (by omega)]

set_option maxRecDepth 100000 in
set_option maxHeartbeats 4000000 in
theorem unass_ok (p : Plan) (hp : OkP p) : CallsV Try.prog 44 [.agg (kp p)] (.slo 1 (em ni (unassL p.routes p.lock.length))) := by
  refine CallsR.intro (I0.sound _) mix Try.func44 rfl rfl (by simp [Try.f44]) (by kernel_rfl) (nb := 0) ?_
  unfold Try.f44
  refine Wp.seqI ?_
  have ⟨p1, p2, p3, p4, p5, p6, p7⟩ := hp
  refine Wp.regI I0.mono ?_
  refine GL.box I0.mono (by conv => lhs; whnf) rfl (n := 7) rfl rfl ?_
  intro g1
  refine GL.assign I0.mono (by conv => lhs; whnf) ?_
  refine GL.doneF ?_
  refine goOn ?_
  refine Wp.seqI ?_
  refine Wp.regI I0.mono ?_
  refine GL.assign I0.mono (by conv => lhs; whnf) ?_
  refine GL.doneF ?_
  refine goWeak (Weak.nilSlot (j := 3) 700001 1 rfl) ?_
  refine Wp.seqI ?_
  refine Wp.seqI ?_
  refine Wp.regI I0.mono ?_
  refine GL.assign I0.mono (by conv => lhs; whnf) ?_
  refine GL.doneF ?_
  refine goOn ?_
  refine Wp.blockI ?_
  refine Wp.loopI I0.mono (α := Nat × Nat × List Int) (fun ⟨i, g, r⟩ st => (1 ≤ i ∧ (i ≤ p.lock.length ∨ i = 1) ∧ r = unassL p.routes i ∧ r.length ≤ i) ∧ ∃ m0, st = ⟨(updS (updS (updS (fun _ => LV.undef) 1 (.ref 64 g1 0 0)) 3 (.own 700001 g 0 r.length none)) 4 (.int .i64 (i : Int))), effM m0 [(64, ⟨g1, false, .var, 7, [kp p]⟩), (700001, ⟨g, false, .slc, 1, em ni r⟩)]⟩) (fun ⟨i, g, r⟩ => p.lock.length - i) ⟨1, _, []⟩ ⟨_, (LessS.weak (LessS.upd (LessS.upd (LessS.upd (LessS.nil _) rfl) rfl) rfl) _), ⟨Nat.le_refl _, .inr rfl, rfl, Nat.zero_le _⟩, _, (congrArg (St.mk _) (effM_eq (Has.cons rfl (Has.cons rfl Has.nil))).symm)⟩ ?_
  rintro ⟨i, g, r⟩ _ ⟨⟨hi0, hi1, hr, hrl⟩, m0, rfl⟩
  refine Wp.seqI ?_
  refine Wp.seqI ?_
  refine Wp.regI I0.mono ?_
  refine GL.move I0.mono (by conv => lhs; whnf) ?_
  refine GL.fieldAddr I0.mono (o := 1) rfl rfl rfl rfl (by conv => lhs; whnf) ?_
  refine GL.load I0.mono rfl rfl rfl rfl (by simp) rfl rfl ?_
  refine GL.lenF I0.mono rfl rfl (em_len _ _) ?_
  refine GL.bin I0.mono rfl ?_
  refine GL.doneF ?_
  refine goOn ?_
  refine Wp.condI rfl (fun h11 => ?_) (fun h11 => ?_)
  ·replace h11 := of_decide_eq_true h11
   refine Wp.skipI ?_
   refine goOn ?_
   refine Wp.seqI ?_
   refine Wp.blockI ?_
   refine Wp.seqI ?_
   refine Wp.regI I0.mono ?_
   refine GL.loadW I0.mono (n := 7) rfl rfl rfl rfl (by simp) rfl rfl rfl ?_
   refine GL.move I0.mono (by conv => lhs; whnf) ?_
   refine GL.callFl I0.mono rfl (Frz.aggc (Frz.pures rfl) (Frz.aggc (Frz.pure rfl) Frz.aggn)) (where_ok p hp _) (flat_ii _ _) rfl rfl ?_
   refine GL.move I0.mono (by conv => lhs; whnf) ?_
   refine GL.extract I0.mono rfl rfl ?_
   refine GL.extract I0.mono rfl rfl ?_
   refine GL.assign I0.mono (by conv => lhs; whnf) ?_
   refine GL.assign I0.mono (by conv => lhs; whnf) ?_
   refine GL.doneF ?_
   refine goOn ?_
   refine Wp.seqI ?_
   refine Wp.regI I0.mono ?_
   refine GL.move I0.mono (by conv => lhs; whnf) ?_
   refine GL.bin I0.mono rfl ?_
   refine GL.doneF ?_
   refine goOn ?_
   refine Wp.condI rfl (fun h21 => ?_) (fun h21 => ?_)
   ·replace h21 := of_decide_eq_true h21
    refine Wp.regI I0.mono ?_
    refine GL.move I0.mono (by conv => lhs; whnf) ?_
    refine GL.move I0.mono (by conv => lhs; whnf) ?_
    refine GL.buildSlice0 I0.mono (sz := 1) (z := [LV.int .i64 0]) (es := em ni [(i : Int)]) rfl rfl rfl rfl (by decide) (by decide) (by decide) (FrzP.cons (S := []) (T := []) (Frz.aggc (S := []) (T := []) (Frz.pure rfl) Frz.aggn) rfl (by decide) rfl (FrzP.nil)) rfl ?_
    intro g24
    refine GL.append1 I0.mono (f := ni) (v := (i : Int)) (sz := 1) (z := [.int .i64 0]) rfl rfl rfl rfl rfl (by decide) (Nat.le_of_ble_eq_true rfl) rfl rfl rfl rfl rfl rfl rfl rfl rfl rfl rfl rfl rfl rfl rfl rfl (by omega) ?_
    refine GL.assign I0.mono (by conv => lhs; whnf) ?_
    refine GL.doneF ?_
    refine blockX.normal ?_
    refine goOn ?_
    refine Wp.regI I0.mono ?_
    refine GL.move I0.mono (by conv => lhs; whnf) ?_
    refine GL.addR I0.mono rfl rfl (by omega) ?_
    refine GL.assign I0.mono (by conv => lhs; whnf) ?_
    refine GL.doneF ?_
    first
    | refine ⟨⟨i + 1, _, r ++ [(i : Int)]⟩, (by dsimp only; omega), _, (LessS.weak (LessS.upd (LessS.upd (LessS.upd (LessS.nil _) rfl) (by rw [List.length_append]; rfl)) rfl) _), ⟨by omega, .inl (by omega), by rw [unass_yes hi0 h21, hr], by simp; omega⟩, _, (congrArg (St.mk _) (effM_eq (Has.cons rfl (Has.cons rfl Has.nil))).symm)⟩
    | refine ⟨⟨i + 1, _, r⟩, (by dsimp only; omega), _, (LessS.weak (LessS.upd (LessS.upd (LessS.upd (LessS.nil _) rfl) rfl) rfl) _), ⟨by omega, .inl (by omega), by rw [unass_no hi0 h21, hr], by omega⟩, _, (congrArg (St.mk _) (effM_eq (Has.cons rfl (Has.cons rfl Has.nil))).symm)⟩
   ·replace h21 := of_decide_eq_false h21
    refine Wp.skipI ?_
    refine blockX.normal ?_
    refine goOn ?_
    refine Wp.regI I0.mono ?_
    refine GL.move I0.mono (by conv => lhs; whnf) ?_
    refine GL.addR I0.mono rfl rfl (by omega) ?_
    refine GL.assign I0.mono (by conv => lhs; whnf) ?_
    refine GL.doneF ?_
    first
    | refine ⟨⟨i + 1, _, r ++ [(i : Int)]⟩, (by dsimp only; omega), _, (LessS.weak (LessS.upd (LessS.upd (LessS.upd (LessS.nil _) rfl) (by rw [List.length_append]; rfl)) rfl) _), ⟨by omega, .inl (by omega), by rw [unass_yes hi0 h21, hr], by simp; omega⟩, _, (congrArg (St.mk _) (effM_eq (Has.cons rfl (Has.cons rfl Has.nil))).symm)⟩
    | refine ⟨⟨i + 1, _, r⟩, (by dsimp only; omega), _, (LessS.weak (LessS.upd (LessS.upd (LessS.upd (LessS.nil _) rfl) rfl) rfl) _), ⟨by omega, .inl (by omega), by rw [unass_no hi0 h21, hr], by omega⟩, _, (congrArg (St.mk _) (effM_eq (Has.cons rfl (Has.cons rfl Has.nil))).symm)⟩
  ·replace h11 := of_decide_eq_false h11
   refine Wp.exitI ?_
   refine thenX.exit ?_
   refine thenX.exit ?_
   refine blockX.out ?_
   refine goOn ?_
   refine Wp.seqI ?_
   refine Wp.regI I0.mono ?_
   refine GL.move I0.mono (by conv => lhs; whnf) ?_
   refine GL.assign I0.mono (by conv => lhs; whnf) ?_
   refine GL.doneF ?_
   refine goOn ?_
   refine Wp.retI ?_
   refine RetX.ret ?_
   have hx : r = unassL p.routes p.lock.length := by
     rw [hr]
     rcases Nat.eq_or_lt_of_le (show 1 ≤ i by omega) with e | e
     · subst e
       unfold unassL
       rw [show p.lock.length - 1 = 0 by omega]
     · rw [show i = p.lock.length by omega]
   refine ⟨_, _, _, _, .cons (.tmp rfl) .nil, .slo rfl rfl rfl rfl (by rw [em_len]; simp), by simp, by simp, ?_⟩
   show LV.slo 1 (em ni r) = _
   rw [hx]

end Go.Proofs.Ytffnlhjdlhpmjaa
