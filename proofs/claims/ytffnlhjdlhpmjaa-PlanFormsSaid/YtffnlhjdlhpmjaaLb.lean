/- Who may do what: walked. -/
import Derived.Test.YtffnlhjdlhpmjaaProg
import Derived.Test.YtffnlhjdlhpmjaaLa
import Derived.Test.YtffnlhjdlhpmjaaKx
import Derived.KernelRfl
set_option linter.all false
namespace Go.Proofs.Ytffnlhjdlhpmjaa
open Go.Proofs Mv
theorem release_f (l : List Int) (hl : l.length ≤ 1000000) (who : Int) : CallsV Try.prog 85 [.sl (em ni l), .int .i64 who] (.sl (em kh (releaseL l who))) := (release_ok l hl who).freeze rfl
def relD (p : Plan) (who : Int) : Delta := ⟨[], releaseL p.lock who, releaseL p.ice who⟩
theorem flat_ii (a b : Int) : FlatI (.tup [.int .i64 a, .int .i64 b]) := .tup (.aggc (.sca rfl) (.aggc (.sca rfl) .aggn))
theorem imp_kpo (m : Mem) (d : Nat) (p : Plan) : impT m d (kpo p) = (.agg [.own d (genAt m d) 0 p.routes.length none, .own (d + 1) (genAt m (d + 1)) 0 p.lock.length none, .own (d + 1 + 1) (genAt m (d + 1 + 1)) 0 p.ice.length none, .own (d + 1 + 1 + 1) (genAt m (d + 1 + 1 + 1)) 0 p.rv.length none, .own (d + 1 + 1 + 1 + 1) (genAt m (d + 1 + 1 + 1 + 1)) 0 p.sv.length none, .own (d + 1 + 1 + 1 + 1 + 1) (genAt m (d + 1 + 1 + 1 + 1 + 1)) 0 p.iv.length none, .int .i64 p.pv],
    [(d, ⟨genAt m d, false, .slc, 1, em nr p.routes⟩), (d + 1, ⟨genAt m (d + 1), false, .slc, 1, em ni p.lock⟩), (d + 1 + 1, ⟨genAt m (d + 1 + 1), false, .slc, 1, em ni p.ice⟩), (d + 1 + 1 + 1, ⟨genAt m (d + 1 + 1 + 1), false, .slc, 1, em ni p.rv⟩), (d + 1 + 1 + 1 + 1, ⟨genAt m (d + 1 + 1 + 1 + 1), false, .slc, 1, em ni p.sv⟩), (d + 1 + 1 + 1 + 1 + 1, ⟨genAt m (d + 1 + 1 + 1 + 1 + 1), false, .slc, 1, em ni p.iv⟩)]) := by
  simp only [kpo, impT, impV, impCs, impC, em_len, List.cons_append, List.nil_append]

set_option maxRecDepth 100000 in
set_option maxHeartbeats 4000000 in
theorem Release_ok (p : Plan) (hp : OkP p) (who : Int) : CallsV Try.prog 36 [.agg (kp p), .int .i64 who] (.agg (kd (relD p who))) := by
  refine CallsR.intro (I0.sound _) mix Try.func36 rfl rfl (by simp [Try.f36]) (by kernel_rfl) (nb := 0) ?_
  unfold Try.f36
  refine Wp.seqI ?_
  have h1 := hp.lock
  have h2 := hp.ice
  refine Wp.regI I0.mono ?_
  refine GL.box I0.mono (by conv => lhs; whnf) rfl (n := 7) rfl rfl ?_
  intro g2
  refine GL.alloc I0.mono (cs := [LV.nils, LV.nils, LV.nils]) rfl rfl ?_
  intro g4
  refine GL.doneF ?_
  refine goOn ?_
  refine Wp.seqI ?_
  refine Wp.regD ?_
  refine GL.fieldAddr I0.mono (o := 1) rfl rfl rfl rfl (by conv => lhs; whnf) ?_
  refine GL.load I0.mono rfl rfl rfl rfl (by simp) rfl rfl ?_
  refine GL.move I0.mono (by conv => lhs; whnf) ?_
  refine GL.call0 I0.mono rfl (Frz.aggc (by exact Frz.pure rfl) (Frz.aggc (by exact Frz.pure rfl) (Frz.aggn))) (release_f _ h1 _) rfl rfl (fun _ => rfl) ?_
  refine GL.fieldAddr I0.mono (o := 2) rfl rfl rfl rfl (by conv => lhs; whnf) ?_
  refine GL.load I0.mono rfl rfl rfl rfl (by simp) rfl rfl ?_
  refine GL.move I0.mono (by conv => lhs; whnf) ?_
  refine GL.call0 I0.mono rfl (Frz.aggc (by exact Frz.pure rfl) (Frz.aggc (by exact Frz.pure rfl) (Frz.aggn))) (release_f _ h2 _) rfl rfl (fun _ => rfl) ?_
  refine GL.buildS I0.mono (z := [LV.nils, LV.nils, LV.nils]) (cs := [_, _, _]) (n := 3) rfl rfl rfl (EvS.cons (by conv => lhs; whnf) (EvS.cons (by conv => lhs; whnf) (EvS.nil))) rfl rfl ?_
  refine GL.storeW I0.mono (n := 3) rfl rfl rfl rfl rfl rfl rfl (by conv => lhs; whnf) rfl rfl rfl ?_
  refine GL.doneT (by kernel_rfl) ?_
  refine goOn ?_
  refine Wp.retI ?_
  refine RetX.ret ?_
  refine ⟨_, _, _, _, .cons (.cellA (n := 3) rfl rfl rfl (by simp) rfl rfl rfl (Nat.le_of_ble_eq_true rfl)) .nil, .frz (Frz.aggc (by exact Frz.nils) (Frz.aggc (by exact Frz.pure rfl) (Frz.aggc (by exact Frz.pure rfl) Frz.aggn))), List.nodup_nil, by simp, rfl⟩

set_option maxRecDepth 100000 in
set_option maxHeartbeats 4000000 in
theorem copyP_ok (p : Plan) (hp : OkP p) : CallsV Try.prog 132 [.agg (kp p)] (kpo p) := by
  refine CallsR.intro (I0.sound _) mix Try.func132 rfl rfl (by simp [Try.f132]) (by kernel_rfl) (nb := 0) ?_
  unfold Try.f132
  refine Wp.seqI ?_
  have h1 := hp.lock
  have h2 := hp.ice
  have h3 := hp.rv
  have h4 := hp.sv
  have h5 := hp.iv
  have h6 := hp.routes
  refine Wp.regI I0.mono ?_
  refine GL.box I0.mono (by conv => lhs; whnf) rfl (n := 7) rfl rfl ?_
  intro g1
  refine GL.alloc I0.mono (cs := [LV.nils, LV.nils, LV.nils, LV.nils, LV.nils, LV.nils, LV.int .i64 0]) rfl rfl ?_
  intro g2
  refine GL.doneF ?_
  refine goOn ?_
  refine Wp.seqI ?_
  refine Wp.regD ?_
  refine GL.fieldAddr I0.mono (o := 1) rfl rfl rfl rfl (by conv => lhs; whnf) ?_
  refine GL.load I0.mono rfl rfl rfl rfl (by simp) rfl rfl ?_
  refine GL.callSlo I0.mono rfl (Frz.aggc (Frz.pure rfl) Frz.aggn) ((cloneI p.lock (by omega))) rfl (em_len _ _) ?_
  intro g8
  refine GL.fieldAddr I0.mono (o := 2) rfl rfl rfl rfl (by conv => lhs; whnf) ?_
  refine GL.load I0.mono rfl rfl rfl rfl (by simp) rfl rfl ?_
  refine GL.callSlo I0.mono rfl (Frz.aggc (Frz.pure rfl) Frz.aggn) ((cloneI p.ice (by omega))) rfl (em_len _ _) ?_
  intro g11
  refine GL.fieldAddr I0.mono (o := 3) rfl rfl rfl rfl (by conv => lhs; whnf) ?_
  refine GL.load I0.mono rfl rfl rfl rfl (by simp) rfl rfl ?_
  refine GL.callSlo I0.mono rfl (Frz.aggc (Frz.pure rfl) Frz.aggn) ((cloneI p.rv (by omega))) rfl (em_len _ _) ?_
  intro g14
  refine GL.fieldAddr I0.mono (o := 4) rfl rfl rfl rfl (by conv => lhs; whnf) ?_
  refine GL.load I0.mono rfl rfl rfl rfl (by simp) rfl rfl ?_
  refine GL.callSlo I0.mono rfl (Frz.aggc (Frz.pure rfl) Frz.aggn) ((cloneI p.sv (by omega))) rfl (em_len _ _) ?_
  intro g17
  refine GL.fieldAddr I0.mono (o := 5) rfl rfl rfl rfl (by conv => lhs; whnf) ?_
  refine GL.load I0.mono rfl rfl rfl rfl (by simp) rfl rfl ?_
  refine GL.callSlo I0.mono rfl (Frz.aggc (Frz.pure rfl) Frz.aggn) ((cloneI p.iv (by omega))) rfl (em_len _ _) ?_
  intro g20
  refine GL.fieldAddr I0.mono (o := 6) rfl rfl rfl rfl (by conv => lhs; whnf) ?_
  refine GL.load I0.mono rfl rfl rfl rfl (by simp) rfl rfl ?_
  refine GL.buildS I0.mono (z := [LV.nils, LV.nils, LV.nils, LV.nils, LV.nils, LV.nils, LV.int .i64 0]) (cs := [_, _, _, _, _, _, _]) (n := 7) rfl rfl rfl (EvS.cons (by conv => lhs; whnf) (EvS.cons (by conv => lhs; whnf) (EvS.cons (by conv => lhs; whnf) (EvS.cons (by conv => lhs; whnf) (EvS.cons (by conv => lhs; whnf) (EvS.cons (by conv => lhs; whnf) (EvS.nil))))))) rfl rfl ?_
  refine GL.alloc I0.mono (cs := [LV.nils, LV.nils, LV.nils, LV.nils, LV.nils, LV.nils, LV.int .i64 0]) rfl rfl ?_
  intro g3
  refine GL.storeW I0.mono (n := 7) rfl rfl rfl rfl rfl rfl rfl (by conv => lhs; whnf) rfl rfl rfl ?_
  refine GL.doneT (by kernel_rfl) ?_
  refine goOn ?_
  refine Wp.seqI ?_
  refine Wp.seqI ?_
  refine Wp.regI I0.mono ?_
  refine GL.fieldAddr I0.mono (o := 0) rfl rfl rfl rfl (by conv => lhs; whnf) ?_
  refine GL.load I0.mono rfl rfl rfl rfl (by simp) rfl rfl ?_
  refine GL.lenF I0.mono rfl rfl (em_len _ _) ?_
  refine GL.move I0.mono (by conv => lhs; whnf) ?_
  refine GL.doneF ?_
  refine goWeak (Weak.nilCell (n := 192) (c := 0) 700001 1 rfl rfl rfl rfl rfl rfl) ?_
  refine Wp.blockI ?_
  refine Wp.loopI I0.mono (α := Nat × Nat × List (List Int)) (fun ⟨i, g, r⟩ st => (i ≤ p.routes.length ∧ r = p.routes.take i) ∧ ∃ m0, st = ⟨(updS (updS (updS (updS (updS (updS (fun _ => LV.undef) 1 (.ref 64 g1 0 0)) 2 (.ref 128 g2 0 0)) 3 (.ref 192 g3 0 0)) 25 (.sl (em nr p.routes))) 26 (.int .i64 (p.routes.length : Int))) 27 (.int .i64 (i : Int))), effM m0 [(64, ⟨g1, false, .var, 7, [kp p]⟩), (128, ⟨g2, false, .var, 7, [[.nils, .nils, .nils, .nils, .nils, .nils, .int .i64 0]]⟩), (192, ⟨g3, false, .var, 7, [.own 700001 g 0 i none :: [.own 512 g8 0 p.lock.length none, .own 704 g11 0 p.ice.length none, .own 896 g14 0 p.rv.length none, .own 1088 g17 0 p.sv.length none, .own 1280 g20 0 p.iv.length none, .int .i64 p.pv]]⟩), (700001, ⟨g, false, .slc, 1, em nr r⟩), (512, ⟨g8, false, .slc, 1, em ni p.lock⟩), (704, ⟨g11, false, .slc, 1, em ni p.ice⟩), (896, ⟨g14, false, .slc, 1, em ni p.rv⟩), (1088, ⟨g17, false, .slc, 1, em ni p.sv⟩), (1280, ⟨g20, false, .slc, 1, em ni p.iv⟩)]⟩) (fun ⟨i, g, r⟩ => p.routes.length - i) ⟨0, _, []⟩ ⟨_, (LessS.weak (LessS.upd (LessS.upd (LessS.upd (LessS.upd (LessS.upd (LessS.upd (LessS.nil _) rfl) rfl) rfl) rfl) rfl) rfl) _), ⟨Nat.zero_le _, rfl⟩, _, (congrArg (St.mk _) (effM_eq (Has.cons rfl (Has.cons rfl (Has.cons rfl (Has.cons rfl (Has.cons rfl (Has.cons rfl (Has.cons rfl (Has.cons rfl (Has.cons rfl Has.nil)))))))))).symm)⟩ ?_
  rintro ⟨i, g, r⟩ _ ⟨⟨hi, hr⟩, m0, rfl⟩
  have hrl : r.length = i := by rw [hr, List.length_take]; omega
  refine Wp.seqI ?_
  refine Wp.regI I0.mono ?_
  refine GL.bin I0.mono rfl ?_
  refine GL.doneF ?_
  refine goOn ?_
  refine Wp.seqI ?_
  refine Wp.condI rfl (fun h28 => ?_) (fun h28 => ?_)
  ·replace h28 := of_decide_eq_true h28
   refine Wp.skipI ?_
   refine goOn ?_
   refine Wp.seqI ?_
   refine Wp.blockI ?_
   refine Wp.seqI ?_
   refine Wp.regI I0.mono ?_
   refine GL.indexAddrF I0.mono (sz := 1) rfl rfl rfl rfl (by omega) (by (rw [em_len]; omega)) (by intro e he; obtain ⟨a, -, rfl⟩ := List.mem_map.1 he; rfl) (by with_reducible exact Int.toNat_natCast _) ?_
   refine GL.loadF I0.mono rfl rfl (em_get (by omega)) rfl ?_
   refine GL.assign I0.mono (by conv => lhs; whnf) ?_
   refine GL.doneF ?_
   refine goOn ?_
   refine Wp.regD ?_
   refine GL.fieldAddr I0.mono (o := 0) rfl rfl rfl rfl (by conv => lhs; whnf) ?_
   refine GL.load I0.mono rfl rfl rfl rfl (by simp) rfl rfl ?_
   refine GL.move I0.mono (by conv => lhs; whnf) ?_
   refine GL.call0 I0.mono rfl (Frz.aggc (by exact Frz.pure rfl) (Frz.aggn)) (cloneF _ (by have := hp.each _ (getD_mem (l := p.routes) (j := i) (by omega)); omega)) rfl rfl (fun _ => rfl) ?_
   refine GL.buildSlice0 I0.mono (sz := 1) (z := [LV.nils]) (es := em nr [p.routes.getD i default]) rfl rfl rfl rfl (by decide) (by decide) (by decide) (FrzP.cons (S := []) (T := []) (Frz.pures rfl) rfl (by decide) rfl (FrzP.nil)) rfl ?_
   intro g35
   refine GL.append1 I0.mono (f := nr) (v := p.routes.getD i default) (sz := 1) (z := [.nils]) rfl rfl rfl rfl rfl (by decide) (Nat.le_of_ble_eq_true rfl) rfl rfl rfl rfl rfl rfl rfl hrl.symm rfl rfl rfl rfl rfl rfl rfl rfl (by omega) ?_
   refine GL.fieldAddr I0.mono (o := 0) rfl rfl rfl rfl (by conv => lhs; whnf) ?_
   refine GL.store I0.mono (n := 1) rfl rfl rfl rfl rfl rfl rfl rfl rfl rfl (Nat.le_of_ble_eq_true rfl) (by (conv => lhs; simp only [List.take_succ_cons, List.take_zero, List.drop_succ_cons, List.drop_zero, List.nil_append, List.cons_append, List.drop_nil, List.append_nil, List.take_nil, List.set_cons_zero, List.set_cons_succ, Nat.zero_add, kp])) (by (conv => lhs; simp only [List.take_succ_cons, List.take_zero, List.drop_succ_cons, List.drop_zero, List.nil_append, List.cons_append, List.drop_nil, List.append_nil, List.take_nil, List.set_cons_zero, List.set_cons_succ, Nat.zero_add, kp])) ?_
   refine GL.doneT (by kernel_rfl) ?_
   refine blockX.normal ?_
   refine goOn ?_
   refine Wp.regI I0.mono ?_
   refine GL.addR I0.mono rfl rfl (by omega) ?_
   refine GL.move I0.mono (by conv => lhs; whnf) ?_
   refine GL.doneF ?_
   refine ⟨⟨i + 1, _, r ++ [p.routes.getD i default]⟩, (by dsimp only; omega), _, (LessS.weak (LessS.upd (LessS.upd (LessS.upd (LessS.upd (LessS.upd (LessS.upd (LessS.nil _) rfl) rfl) rfl) rfl) rfl) rfl) _), ⟨by omega, by rw [hr, take_snocG (by omega)]⟩, _, (congrArg (St.mk _) (effM_eq (Has.cons rfl (Has.cons rfl (Has.cons rfl (Has.cons rfl (Has.cons rfl (Has.cons rfl (Has.cons rfl (Has.cons rfl (Has.cons rfl Has.nil)))))))))).symm)⟩
  ·replace h28 := of_decide_eq_false h28
   refine Wp.exitI ?_
   refine thenX.exit ?_
   refine thenX.exit ?_
   refine blockX.out ?_
   refine goOn ?_
   refine Wp.seqI ?_
   refine Wp.regI I0.mono ?_
   refine GL.loadW I0.mono (n := 7) rfl rfl rfl rfl (by simp) rfl rfl rfl ?_
   refine GL.storeW I0.mono (n := 7) rfl rfl rfl rfl rfl rfl rfl (by conv => lhs; whnf) rfl rfl rfl ?_
   refine GL.doneF ?_
   refine goOn ?_
   refine Wp.retI ?_
   refine RetX.ret ?_
   have hx : r = p.routes := by rw [hr, show i = p.routes.length by omega, List.take_length]
   refine ⟨_, _, _, _, .cons (.cellA (n := 7) rfl rfl rfl (by simp) rfl rfl rfl (Nat.le_of_ble_eq_true rfl)) .nil, (.aggc (by exact Exp.sloW rfl rfl rfl rfl rfl rfl (by (rw [em_len]; omega))) (.aggc (by exact Exp.sloW rfl rfl rfl rfl rfl rfl (by exact (em_len _ _).symm)) (.aggc (by exact Exp.sloW rfl rfl rfl rfl rfl rfl (by exact (em_len _ _).symm)) (.aggc (by exact Exp.sloW rfl rfl rfl rfl rfl rfl (by exact (em_len _ _).symm)) (.aggc (by exact Exp.sloW rfl rfl rfl rfl rfl rfl (by exact (em_len _ _).symm)) (.aggc (by exact Exp.sloW rfl rfl rfl rfl rfl rfl (by exact (em_len _ _).symm)) (.aggc (by exact Exp.frz (Frz.pure rfl)) .aggn))))))), (by decide), by simp, ?_⟩
   show LV.agg _ = _
   rw [hx]
   rfl

theorem bad_eq (R R' : List (List Int)) (lock : List Int) (who : Int) (s : Nat) : badS R R' lock who s = (decide ((s : Int) > 0) && (other (lock.getD s default) who && (((whereR R s).1 != (whereR R' s).1) || ((whereR R s).2 != (whereR R' s).2)))) := by
  unfold badS
  have e1 : decide (0 < s) = decide ((s : Int) > 0) := decide_eq_decide.2 (by omega)
  have e2 : decide (whereR R s ≠ whereR R' s) = (((whereR R s).1 != (whereR R' s).1) || ((whereR R s).2 != (whereR R' s).2)) := by
    by_cases h1 : (whereR R s).1 = (whereR R' s).1
    · by_cases h2 : (whereR R s).2 = (whereR R' s).2
      · simp [h1, h2, Prod.ext_iff]
      · simp [h1, h2, Prod.ext_iff]
    · simp [h1, Prod.ext_iff]
  rw [e1, e2]

set_option maxRecDepth 100000 in
set_option maxHeartbeats 4000000 in
theorem moved84_ok (p : Plan) (hp : OkP p) (who : Int) (d : Delta) (hd : OkD d) : CallsV Try.prog 84 [.agg (kp p), .int .i64 who, .agg (kd d)] (.bool (movedB p.routes (setR p.routes d.turns) p.lock who)) := by
  refine CallsR.intro (I0.sound _) mix Try.func84 rfl rfl (by simp [Try.f84]) (by kernel_rfl) (nb := 0) ?_
  unfold Try.f84
  refine Wp.seqI ?_
  obtain ⟨p1, p2, p3, p4, p5, p6, p7⟩ := hp
  obtain ⟨d1, d2, d3, d4⟩ := hd
  refine Wp.regI I0.mono ?_
  refine GL.box I0.mono (by conv => lhs; whnf) rfl (n := 7) rfl rfl ?_
  intro g3
  refine GL.box I0.mono (by conv => lhs; whnf) rfl (n := 3) rfl rfl ?_
  intro g5
  refine GL.assign I0.mono (by conv => lhs; whnf) ?_
  refine GL.doneF ?_
  refine goOn ?_
  refine Wp.seqI ?_
  refine Wp.regI I0.mono ?_
  refine GL.loadW I0.mono (n := 7) rfl rfl rfl rfl (by simp) rfl rfl rfl ?_
  refine GL.callN I0.mono rfl (Frz.aggc (Frz.pures rfl) Frz.aggn) (copyP_ok p ⟨p1, p2, p3, p4, p5, p6, p7⟩) rfl rfl (imp_kpo _ _ _) ?_
  refine GL.alloc I0.mono (cs := [LV.nils, LV.nils, LV.nils, LV.nils, LV.nils, LV.nils, LV.int .i64 0]) rfl rfl ?_
  intro g7
  refine GL.storeW I0.mono (n := 7) rfl rfl rfl rfl rfl rfl rfl (by conv => lhs; whnf) rfl rfl rfl ?_
  refine GL.doneF ?_
  refine goOn ?_
  refine Wp.seqI ?_
  refine Wp.seqI ?_
  refine Wp.regI I0.mono ?_
  refine GL.fieldAddr I0.mono (o := 0) rfl rfl rfl rfl (by conv => lhs; whnf) ?_
  refine GL.load I0.mono rfl rfl rfl rfl (by simp) rfl rfl ?_
  refine GL.lenF I0.mono rfl rfl (em_len _ _) ?_
  refine GL.move I0.mono (by conv => lhs; whnf) ?_
  refine GL.doneF ?_
  refine goOn ?_
  refine Wp.blockI ?_
  refine Wp.loopI I0.mono (α := Nat × List (List Int)) (fun ⟨i, R⟩ st => (i ≤ d.turns.length ∧ R = setR p.routes (d.turns.take i)) ∧ ∃ m0, st = ⟨(updS (updS (updS (updS (updS (updS (fun _ => LV.undef) 1 (.int .i64 who)) 3 (.ref 192 g3 0 0)) 7 (.ref 448 g7 0 0)) 19 (.sl (em kt d.turns))) 20 (.int .i64 (d.turns.length : Int))) 21 (.int .i64 (i : Int))), effM m0 [(192, ⟨g3, false, .var, 7, [kp p]⟩), (448, ⟨g7, false, .var, 7, [[.own 1088 0 0 p.routes.length none, .own 1089 0 0 p.lock.length none, .own 1090 0 0 p.ice.length none, .own 1091 0 0 p.rv.length none, .own 1092 0 0 p.sv.length none, .own 1093 0 0 p.iv.length none, .int .i64 p.pv]]⟩), (1088, ⟨0, false, .slc, 1, em nr R⟩), (1089, ⟨0, false, .slc, 1, em ni p.lock⟩), (1090, ⟨0, false, .slc, 1, em ni p.ice⟩), (1091, ⟨0, false, .slc, 1, em ni p.rv⟩), (1092, ⟨0, false, .slc, 1, em ni p.sv⟩), (1093, ⟨0, false, .slc, 1, em ni p.iv⟩)]⟩) (fun ⟨i, R⟩ => d.turns.length - i) ⟨0, p.routes⟩ ⟨_, (LessS.weak (LessS.upd (LessS.upd (LessS.upd (LessS.upd (LessS.upd (LessS.upd (LessS.nil _) rfl) rfl) rfl) rfl) rfl) rfl) _), ⟨Nat.zero_le _, rfl⟩, _, (congrArg (St.mk _) (effM_eq (Has.cons rfl (Has.cons rfl (Has.cons rfl (Has.cons rfl (Has.cons rfl (Has.cons rfl (Has.cons rfl (Has.cons rfl Has.nil))))))))).symm)⟩ ?_
  rintro ⟨i, R⟩ _ ⟨⟨hi, hR⟩, m0, rfl⟩
  have hRl : R.length = p.routes.length := by rw [hR, setR_len]
  refine Wp.seqI ?_
  refine Wp.regI I0.mono ?_
  refine GL.bin I0.mono rfl ?_
  refine GL.doneF ?_
  refine goOn ?_
  refine Wp.seqI ?_
  refine Wp.condI rfl (fun h22 => ?_) (fun h22 => ?_)
  ·replace h22 := of_decide_eq_true h22
   refine Wp.skipI ?_
   refine goOn ?_
   refine Wp.seqI ?_
   refine Wp.blockI ?_
   refine Wp.seqI ?_
   refine Wp.regI I0.mono ?_
   refine GL.indexAddrF I0.mono (sz := 3) rfl rfl rfl rfl (by omega) (by (rw [em_len]; omega)) (by intro e he; obtain ⟨a, -, rfl⟩ := List.mem_map.1 he; rfl) (by with_reducible exact Int.toNat_natCast _) ?_
   refine GL.loadFW I0.mono (n := 3) rfl rfl (em_get (by omega)) rfl rfl ?_
   refine GL.alloc I0.mono (cs := [LV.int .i64 0, LV.nils, LV.nils]) rfl rfl ?_
   intro g9
   refine GL.storeW I0.mono (n := 3) rfl rfl rfl rfl rfl rfl rfl (by conv => lhs; whnf) rfl rfl rfl ?_
   refine GL.doneF ?_
   refine goOn ?_
   refine Wp.seqI ?_
   refine Wp.regI I0.mono ?_
   refine GL.fieldAddr I0.mono (o := 0) rfl rfl rfl rfl (by conv => lhs; whnf) ?_
   refine GL.load I0.mono rfl rfl rfl rfl (by simp) rfl rfl ?_
   refine GL.bin I0.mono rfl ?_
   refine GL.move I0.mono (by conv => lhs; whnf) ?_
   refine GL.splitAt 28 rfl (fun h28 => ?_) (fun h28 => ?_)
   ·rw [h28]
    replace h28 := of_decide_eq_true h28
    refine GL.guardT rfl ?_
    refine GL.fieldAddr I0.mono (o := 0) rfl rfl rfl rfl (by conv => lhs; whnf) ?_
    refine GL.guardT rfl ?_
    refine GL.load I0.mono rfl rfl rfl rfl (by simp) rfl rfl ?_
    refine GL.guardT rfl ?_
    refine GL.fieldAddr I0.mono (o := 0) rfl rfl rfl rfl (by conv => lhs; whnf) ?_
    refine GL.guardT rfl ?_
    refine GL.load I0.mono rfl rfl rfl rfl (by simp) rfl rfl ?_
    refine GL.guardT rfl ?_
    refine GL.lenO I0.mono rfl rfl rfl rfl ?_
    refine GL.guardT rfl ?_
    refine GL.bin I0.mono rfl ?_
    refine GL.pick I0.mono rfl (by conv => lhs; whnf) ?_
    refine GL.doneF ?_
    refine goOn ?_
    refine Wp.condI rfl (fun h35 => ?_) (fun h35 => ?_)
    ·replace h35 := of_decide_eq_true h35
     refine Wp.regI I0.mono ?_
     refine GL.fieldAddr I0.mono (o := 0) rfl rfl rfl rfl (by conv => lhs; whnf) ?_
     refine GL.load I0.mono rfl rfl rfl rfl (by simp) rfl rfl ?_
     refine GL.fieldAddr I0.mono (o := 0) rfl rfl rfl rfl (by conv => lhs; whnf) ?_
     refine GL.load I0.mono rfl rfl rfl rfl (by simp) rfl rfl ?_
     refine GL.fieldAddr I0.mono (o := 2) rfl rfl rfl rfl (by conv => lhs; whnf) ?_
     refine GL.load I0.mono rfl rfl rfl rfl (by simp) rfl rfl ?_
     refine GL.indexAddr I0.mono (sz := 1) (j := (d.turns.getD i default).car.toNat) rfl rfl rfl rfl rfl rfl rfl rfl (by omega) (by omega) (by omega) ?_
     refine GL.storeS I0.mono (n := 1) rfl rfl rfl rfl rfl rfl (em_get (by omega)) rfl rfl rfl rfl (Nat.le_of_ble_eq_true rfl) rfl (em_set nr _ _ (d.turns.getD i default).after) ?_
     refine GL.doneF ?_
     refine blockX.normal ?_
     refine goOn ?_
     refine Wp.regI I0.mono ?_
     refine GL.addR I0.mono rfl rfl (by omega) ?_
     refine GL.move I0.mono (by conv => lhs; whnf) ?_
     refine GL.doneF ?_
     first
     | refine ⟨⟨i + 1, R.set (d.turns.getD i default).car.toNat (d.turns.getD i default).after⟩, (by dsimp only; omega), _, (LessS.weak (LessS.upd (LessS.upd (LessS.upd (LessS.upd (LessS.upd (LessS.upd (LessS.nil _) rfl) rfl) rfl) rfl) rfl) rfl) _), ⟨by omega, by rw [setR_snoc _ _ (by omega), ← hR, setR1, if_pos (by omega)]⟩, _, (congrArg (St.mk _) (effM_eq (Has.cons rfl (Has.cons rfl (Has.cons rfl (Has.cons rfl (Has.cons rfl (Has.cons rfl (Has.cons rfl (Has.cons rfl Has.nil))))))))).symm)⟩
     | refine ⟨⟨i + 1, R⟩, (by dsimp only; omega), _, (LessS.weak (LessS.upd (LessS.upd (LessS.upd (LessS.upd (LessS.upd (LessS.upd (LessS.nil _) rfl) rfl) rfl) rfl) rfl) rfl) _), ⟨by omega, by rw [setR_snoc _ _ (by omega), ← hR, setR1, if_neg (by omega)]⟩, _, (congrArg (St.mk _) (effM_eq (Has.cons rfl (Has.cons rfl (Has.cons rfl (Has.cons rfl (Has.cons rfl (Has.cons rfl (Has.cons rfl (Has.cons rfl Has.nil))))))))).symm)⟩
    ·replace h35 := of_decide_eq_false h35
     refine Wp.skipI ?_
     refine blockX.normal ?_
     refine goOn ?_
     refine Wp.regI I0.mono ?_
     refine GL.addR I0.mono rfl rfl (by omega) ?_
     refine GL.move I0.mono (by conv => lhs; whnf) ?_
     refine GL.doneF ?_
     first
     | refine ⟨⟨i + 1, R.set (d.turns.getD i default).car.toNat (d.turns.getD i default).after⟩, (by dsimp only; omega), _, (LessS.weak (LessS.upd (LessS.upd (LessS.upd (LessS.upd (LessS.upd (LessS.upd (LessS.nil _) rfl) rfl) rfl) rfl) rfl) rfl) _), ⟨by omega, by rw [setR_snoc _ _ (by omega), ← hR, setR1, if_pos (by omega)]⟩, _, (congrArg (St.mk _) (effM_eq (Has.cons rfl (Has.cons rfl (Has.cons rfl (Has.cons rfl (Has.cons rfl (Has.cons rfl (Has.cons rfl (Has.cons rfl Has.nil))))))))).symm)⟩
     | refine ⟨⟨i + 1, R⟩, (by dsimp only; omega), _, (LessS.weak (LessS.upd (LessS.upd (LessS.upd (LessS.upd (LessS.upd (LessS.upd (LessS.nil _) rfl) rfl) rfl) rfl) rfl) rfl) _), ⟨by omega, by rw [setR_snoc _ _ (by omega), ← hR, setR1, if_neg (by omega)]⟩, _, (congrArg (St.mk _) (effM_eq (Has.cons rfl (Has.cons rfl (Has.cons rfl (Has.cons rfl (Has.cons rfl (Has.cons rfl (Has.cons rfl (Has.cons rfl Has.nil))))))))).symm)⟩
   ·rw [h28]
    replace h28 := of_decide_eq_false h28
    refine GL.guardF rfl ?_
    refine GL.guardF rfl ?_
    refine GL.guardF rfl ?_
    refine GL.guardF rfl ?_
    refine GL.guardF rfl ?_
    refine GL.guardF rfl ?_
    refine GL.pick I0.mono rfl (by conv => lhs; whnf) ?_
    refine GL.doneF ?_
    refine goOn ?_
    refine Wp.condF rfl ?_
    refine Wp.skipI ?_
    refine blockX.normal ?_
    refine goOn ?_
    refine Wp.regI I0.mono ?_
    refine GL.addR I0.mono rfl rfl (by omega) ?_
    refine GL.move I0.mono (by conv => lhs; whnf) ?_
    refine GL.doneF ?_
    first
    | refine ⟨⟨i + 1, R.set (d.turns.getD i default).car.toNat (d.turns.getD i default).after⟩, (by dsimp only; omega), _, (LessS.weak (LessS.upd (LessS.upd (LessS.upd (LessS.upd (LessS.upd (LessS.upd (LessS.nil _) rfl) rfl) rfl) rfl) rfl) rfl) _), ⟨by omega, by rw [setR_snoc _ _ (by omega), ← hR, setR1, if_pos (by omega)]⟩, _, (congrArg (St.mk _) (effM_eq (Has.cons rfl (Has.cons rfl (Has.cons rfl (Has.cons rfl (Has.cons rfl (Has.cons rfl (Has.cons rfl (Has.cons rfl Has.nil))))))))).symm)⟩
    | refine ⟨⟨i + 1, R⟩, (by dsimp only; omega), _, (LessS.weak (LessS.upd (LessS.upd (LessS.upd (LessS.upd (LessS.upd (LessS.upd (LessS.nil _) rfl) rfl) rfl) rfl) rfl) rfl) _), ⟨by omega, by rw [setR_snoc _ _ (by omega), ← hR, setR1, if_neg (by omega)]⟩, _, (congrArg (St.mk _) (effM_eq (Has.cons rfl (Has.cons rfl (Has.cons rfl (Has.cons rfl (Has.cons rfl (Has.cons rfl (Has.cons rfl (Has.cons rfl Has.nil))))))))).symm)⟩
  ·replace h22 := of_decide_eq_false h22
   have hRt : R = setR p.routes d.turns := by rw [hR, List.take_of_length_le (by omega)]
   have hq : OkP ⟨R, p.lock, p.ice, p.rv, p.sv, p.iv, p.pv⟩ := ⟨by show R.length ≤ _; omega, by show ∀ r ∈ R, _; rw [hRt]; exact setR_each p2 d.turns fun t ht => (d4 t ht).2, p3, p4, p5, p6, p7⟩
   refine Wp.exitI ?_
   refine thenX.exit ?_
   refine thenX.exit ?_
   refine blockX.out ?_
   refine goOn ?_
   refine Wp.seqI ?_
   refine Wp.seqI ?_
   refine Wp.regI I0.mono ?_
   refine GL.fieldAddr I0.mono (o := 1) rfl rfl rfl rfl (by conv => lhs; whnf) ?_
   refine GL.load I0.mono rfl rfl rfl rfl (by simp) rfl rfl ?_
   refine GL.lenF I0.mono rfl rfl (em_len _ _) ?_
   refine GL.move I0.mono (by conv => lhs; whnf) ?_
   refine GL.doneF ?_
   refine goWeak (Weak.mark _ _ [1088, 1089, 1090, 1091, 1092, 1093]) ?_
   refine Wp.blockI ?_
   refine Wp.loopI I0.mono (α := Nat) (fun i st => (i ≤ p.lock.length ∧ ∀ j, j < i → badS p.routes R p.lock who j = false) ∧ ∃ m0, st = ⟨(updS (updS (updS (updS (updS (updS (fun _ => LV.undef) 1 (.int .i64 who)) 3 (.ref 192 g3 0 0)) 7 (.ref 448 g7 0 0)) 45 (.sl (em ni p.lock))) 46 (.int .i64 (p.lock.length : Int))) 47 (.int .i64 (i : Int))), effM m0 [(192, ⟨g3, false, .var, 7, [kp p]⟩), (448, ⟨g7, false, .var, 7, [[.own 1088 0 0 p.routes.length none, .own 1089 0 0 p.lock.length none, .own 1090 0 0 p.ice.length none, .own 1091 0 0 p.rv.length none, .own 1092 0 0 p.sv.length none, .own 1093 0 0 p.iv.length none, .int .i64 p.pv]]⟩), (1088, ⟨0, true, .slc, 1, em nr R⟩), (1089, ⟨0, true, .slc, 1, em ni p.lock⟩), (1090, ⟨0, true, .slc, 1, em ni p.ice⟩), (1091, ⟨0, true, .slc, 1, em ni p.rv⟩), (1092, ⟨0, true, .slc, 1, em ni p.sv⟩), (1093, ⟨0, true, .slc, 1, em ni p.iv⟩)]⟩) (fun i => p.lock.length - i) 0 ⟨_, (LessS.weak (LessS.upd (LessS.upd (LessS.upd (LessS.upd (LessS.upd (LessS.upd (LessS.nil _) rfl) rfl) rfl) rfl) rfl) rfl) _), ⟨Nat.zero_le _, fun j h => by omega⟩, _, (congrArg (St.mk _) (effM_eq (Has.cons rfl (Has.cons rfl (Has.cons rfl (Has.cons rfl (Has.cons rfl (Has.cons rfl (Has.cons rfl (Has.cons rfl Has.nil))))))))).symm)⟩ ?_
   rintro i _ ⟨⟨hi, hA⟩, m0, rfl⟩
   refine Wp.seqI ?_
   refine Wp.regI I0.mono ?_
   refine GL.bin I0.mono rfl ?_
   refine GL.doneF ?_
   refine goOn ?_
   refine Wp.seqI ?_
   refine Wp.condI rfl (fun h48 => ?_) (fun h48 => ?_)
   ·replace h48 := of_decide_eq_true h48
    refine Wp.skipI ?_
    refine goOn ?_
    refine Wp.seqI ?_
    refine Wp.blockI ?_
    refine Wp.seqI ?_
    refine Wp.regI I0.mono ?_
    refine GL.move I0.mono (by conv => lhs; whnf) ?_
    refine GL.indexAddrF I0.mono (sz := 1) rfl rfl rfl rfl (by omega) (by (rw [em_len]; omega)) (by intro e he; obtain ⟨a, -, rfl⟩ := List.mem_map.1 he; rfl) (by with_reducible exact Int.toNat_natCast _) ?_
    refine GL.loadF I0.mono rfl rfl (em_get (by omega)) rfl ?_
    refine GL.assign I0.mono (by conv => lhs; whnf) ?_
    refine GL.assign I0.mono (by conv => lhs; whnf) ?_
    refine GL.doneF ?_
    refine goOn ?_
    refine Wp.seqI ?_
    refine Wp.regI I0.mono ?_
    refine GL.loadW I0.mono (n := 7) rfl rfl rfl rfl (by simp) rfl rfl rfl ?_
    refine GL.move I0.mono (by conv => lhs; whnf) ?_
    refine GL.callFl I0.mono rfl (Frz.aggc (Frz.pures rfl) (Frz.aggc (Frz.pure rfl) Frz.aggn)) (where_ok p ⟨p1, p2, p3, p4, p5, p6, p7⟩ _) (flat_ii _ _) rfl rfl ?_
    refine GL.move I0.mono (by conv => lhs; whnf) ?_
    refine GL.extract I0.mono rfl rfl ?_
    refine GL.extract I0.mono rfl rfl ?_
    refine GL.assign I0.mono (by conv => lhs; whnf) ?_
    refine GL.assign I0.mono (by conv => lhs; whnf) ?_
    refine GL.doneF ?_
    refine goOn ?_
    refine Wp.seqI ?_
    refine Wp.regI I0.mono ?_
    refine GL.loadW I0.mono (n := 7) rfl rfl rfl rfl (by simp) rfl rfl rfl ?_
    refine GL.move I0.mono (by conv => lhs; whnf) ?_
    refine GL.callFl I0.mono rfl (Frz.aggc (Frz.aggc (Frz.whole rfl rfl rfl rfl (by (rw [em_len, hRl]))) (Frz.aggc (Frz.whole rfl rfl rfl rfl (by exact em_len _ _)) (Frz.aggc (Frz.whole rfl rfl rfl rfl (by exact em_len _ _)) (Frz.aggc (Frz.whole rfl rfl rfl rfl (by exact em_len _ _)) (Frz.aggc (Frz.whole rfl rfl rfl rfl (by exact em_len _ _)) (Frz.aggc (Frz.whole rfl rfl rfl rfl (by exact em_len _ _)) (Frz.aggc (Frz.pure rfl) Frz.aggn))))))) (Frz.aggc (Frz.pure rfl) Frz.aggn)) (where_ok ⟨R, p.lock, p.ice, p.rv, p.sv, p.iv, p.pv⟩ hq _) (flat_ii _ _) rfl rfl ?_
    refine GL.move I0.mono (by conv => lhs; whnf) ?_
    refine GL.extract I0.mono rfl rfl ?_
    refine GL.extract I0.mono rfl rfl ?_
    refine GL.assign I0.mono (by conv => lhs; whnf) ?_
    refine GL.assign I0.mono (by conv => lhs; whnf) ?_
    refine GL.doneF ?_
    refine goOn ?_
    refine Wp.seqI ?_
    refine Wp.regI I0.mono ?_
    refine GL.move I0.mono (by conv => lhs; whnf) ?_
    refine GL.bin I0.mono rfl ?_
    refine GL.move I0.mono (by conv => lhs; whnf) ?_
    refine GL.splitAt 66 rfl (fun h66 => ?_) (fun h66 => ?_)
    ·rw [h66]
     replace h66 := of_decide_eq_true h66
     refine GL.guardT rfl ?_
     refine GL.move I0.mono (by conv => lhs; whnf) ?_
     refine GL.guardT rfl ?_
     refine GL.move I0.mono (by conv => lhs; whnf) ?_
     refine GL.guardT rfl ?_
     refine GL.call0 I0.mono rfl (Frz.aggc (by exact Frz.pure rfl) (Frz.aggc (by exact Frz.pure rfl) (Frz.aggn))) (other_ok _ _) rfl rfl (fun _ => rfl) ?_
     refine GL.pick I0.mono rfl (by conv => lhs; whnf) ?_
     refine GL.move I0.mono (by conv => lhs; whnf) ?_
     refine GL.splitAt 71 rfl (fun h71 => ?_) (fun h71 => ?_)
     ·rw [h71]
      skip
      refine GL.guardT rfl ?_
      refine GL.move I0.mono (by conv => lhs; whnf) ?_
      refine GL.guardT rfl ?_
      refine GL.move I0.mono (by conv => lhs; whnf) ?_
      refine GL.guardT rfl ?_
      refine GL.bin I0.mono rfl ?_
      refine GL.guardT rfl ?_
      refine GL.move I0.mono (by conv => lhs; whnf) ?_
      refine GL.splitAt 75 rfl (fun h75 => ?_) (fun h75 => ?_)
      ·rw [h75]
       replace h75 := bne_true h75
       refine GL.guardF rfl ?_
       refine GL.guardF rfl ?_
       refine GL.guardF rfl ?_
       refine GL.guardT rfl ?_
       refine GL.pick I0.mono rfl (by conv => lhs; whnf) ?_
       refine GL.pick I0.mono rfl (by conv => lhs; whnf) ?_
       refine GL.doneF ?_
       refine goOn ?_
       refine Wp.condT rfl ?_
       refine Wp.seqI ?_
       refine Wp.regI I0.mono ?_
       refine GL.assign I0.mono (by conv => lhs; whnf) ?_
       refine GL.doneF ?_
       refine goOn ?_
       refine Wp.retI ?_
       refine blockX.ret ?_
       refine thenX.ret ?_
       refine thenX.ret ?_
       refine blockX.ret ?_
       refine thenX.ret ?_
       refine RetX.ret ?_
       refine ⟨_, _, _, _, .cons (.tmp rfl) .nil, .frz (.pure rfl), List.nodup_nil, by simp, ?_⟩
       show LV.bool _ = LV.bool _
       congr 1
       rw [← hRt]
       exact (moved_yes (j := i) (by omega) (by rw [bad_eq]; simp_all)).symm
      ·rw [h75]
       replace h75 := bne_false h75
       refine GL.guardT rfl ?_
       refine GL.move I0.mono (by conv => lhs; whnf) ?_
       refine GL.guardT rfl ?_
       refine GL.move I0.mono (by conv => lhs; whnf) ?_
       refine GL.guardT rfl ?_
       refine GL.bin I0.mono rfl ?_
       refine GL.guardT rfl ?_
       refine GL.pick I0.mono rfl (by conv => lhs; whnf) ?_
       refine GL.pick I0.mono rfl (by conv => lhs; whnf) ?_
       refine GL.doneF ?_
       refine goOn ?_
       refine Wp.condI rfl (fun h80 => ?_) (fun h80 => ?_)
       ·replace h80 := bne_true h80
        refine Wp.seqI ?_
        refine Wp.regI I0.mono ?_
        refine GL.assign I0.mono (by conv => lhs; whnf) ?_
        refine GL.doneF ?_
        refine goOn ?_
        refine Wp.retI ?_
        refine blockX.ret ?_
        refine thenX.ret ?_
        refine thenX.ret ?_
        refine blockX.ret ?_
        refine thenX.ret ?_
        refine RetX.ret ?_
        refine ⟨_, _, _, _, .cons (.tmp rfl) .nil, .frz (.pure rfl), List.nodup_nil, by simp, ?_⟩
        show LV.bool _ = LV.bool _
        congr 1
        rw [← hRt]
        exact (moved_yes (j := i) (by omega) (by rw [bad_eq]; simp_all)).symm
       ·replace h80 := bne_false h80
        refine Wp.skipI ?_
        refine blockX.normal ?_
        refine goOn ?_
        refine Wp.regI I0.mono ?_
        refine GL.addR I0.mono rfl rfl (by omega) ?_
        refine GL.move I0.mono (by conv => lhs; whnf) ?_
        refine GL.doneF ?_
        refine ⟨i + 1, (by dsimp only; omega), _, (LessS.weak (LessS.upd (LessS.upd (LessS.upd (LessS.upd (LessS.upd (LessS.upd (LessS.nil _) rfl) rfl) rfl) rfl) rfl) rfl) _), ⟨by omega, fun j h => by
              by_cases hj : j = i
              · subst hj; rw [bad_eq]; simp_all
              · exact hA j (by omega)⟩, _, (congrArg (St.mk _) (effM_eq (Has.cons rfl (Has.cons rfl (Has.cons rfl (Has.cons rfl (Has.cons rfl (Has.cons rfl (Has.cons rfl (Has.cons rfl Has.nil))))))))).symm)⟩
     ·rw [h71]
      skip
      refine GL.guardF rfl ?_
      refine GL.guardF rfl ?_
      refine GL.guardF rfl ?_
      refine GL.guardF rfl ?_
      refine GL.guardF rfl ?_
      refine GL.guardF rfl ?_
      refine GL.guardF rfl ?_
      refine GL.guardF rfl ?_
      refine GL.pick I0.mono rfl (by conv => lhs; whnf) ?_
      refine GL.doneF ?_
      refine goOn ?_
      refine Wp.condF rfl ?_
      refine Wp.skipI ?_
      refine blockX.normal ?_
      refine goOn ?_
      refine Wp.regI I0.mono ?_
      refine GL.addR I0.mono rfl rfl (by omega) ?_
      refine GL.move I0.mono (by conv => lhs; whnf) ?_
      refine GL.doneF ?_
      refine ⟨i + 1, (by dsimp only; omega), _, (LessS.weak (LessS.upd (LessS.upd (LessS.upd (LessS.upd (LessS.upd (LessS.upd (LessS.nil _) rfl) rfl) rfl) rfl) rfl) rfl) _), ⟨by omega, fun j h => by
            by_cases hj : j = i
            · subst hj; rw [bad_eq]; simp_all
            · exact hA j (by omega)⟩, _, (congrArg (St.mk _) (effM_eq (Has.cons rfl (Has.cons rfl (Has.cons rfl (Has.cons rfl (Has.cons rfl (Has.cons rfl (Has.cons rfl (Has.cons rfl Has.nil))))))))).symm)⟩
    ·rw [h66]
     replace h66 := of_decide_eq_false h66
     refine GL.guardF rfl ?_
     refine GL.guardF rfl ?_
     refine GL.guardF rfl ?_
     refine GL.pick I0.mono rfl (by conv => lhs; whnf) ?_
     refine GL.move I0.mono (by conv => lhs; whnf) ?_
     refine GL.guardF rfl ?_
     refine GL.guardF rfl ?_
     refine GL.guardF rfl ?_
     refine GL.guardF rfl ?_
     refine GL.guardF rfl ?_
     refine GL.guardF rfl ?_
     refine GL.guardF rfl ?_
     refine GL.guardF rfl ?_
     refine GL.pick I0.mono rfl (by conv => lhs; whnf) ?_
     refine GL.doneF ?_
     refine goOn ?_
     refine Wp.condF rfl ?_
     refine Wp.skipI ?_
     refine blockX.normal ?_
     refine goOn ?_
     refine Wp.regI I0.mono ?_
     refine GL.addR I0.mono rfl rfl (by omega) ?_
     refine GL.move I0.mono (by conv => lhs; whnf) ?_
     refine GL.doneF ?_
     refine ⟨i + 1, (by dsimp only; omega), _, (LessS.weak (LessS.upd (LessS.upd (LessS.upd (LessS.upd (LessS.upd (LessS.upd (LessS.nil _) rfl) rfl) rfl) rfl) rfl) rfl) _), ⟨by omega, fun j h => by
           by_cases hj : j = i
           · subst hj; rw [bad_eq]; simp_all
           · exact hA j (by omega)⟩, _, (congrArg (St.mk _) (effM_eq (Has.cons rfl (Has.cons rfl (Has.cons rfl (Has.cons rfl (Has.cons rfl (Has.cons rfl (Has.cons rfl (Has.cons rfl Has.nil))))))))).symm)⟩
   ·replace h48 := of_decide_eq_false h48
    refine Wp.exitI ?_
    refine thenX.exit ?_
    refine thenX.exit ?_
    refine blockX.out ?_
    refine goOn ?_
    refine Wp.seqI ?_
    refine Wp.regI I0.mono ?_
    refine GL.assign I0.mono (by conv => lhs; whnf) ?_
    refine GL.doneF ?_
    refine goOn ?_
    refine Wp.retI ?_
    refine RetX.ret ?_
    refine ⟨_, _, _, _, .cons (.tmp rfl) .nil, .frz (.pure rfl), List.nodup_nil, by simp, ?_⟩
    show LV.bool _ = LV.bool _
    congr 1
    rw [← hRt]
    exact (moved_no fun j hj => hA j (by omega)).symm

def mayC (p : Plan) (who : Int) (T : Delta) : Int := if (T.turns.any (icedB p) || T.ices.any fun h => other h.before who) = true then 11 else if (T.locks.any (fun h => other h.before who) || movedB p.routes (setR p.routes T.turns) p.lock who) = true then 12 else 0

set_option maxRecDepth 100000 in
set_option maxHeartbeats 4000000 in
theorem may_ok (p : Plan) (hp : OkP p) (who : Int) (d T : Delta) (ht : CallsV Try.prog 23 [.agg (kd d)] (.agg (kd T))) (hT : OkD T) : CallsV Try.prog 35 [.agg (kp p), .int .i64 who, .agg (kd d)] (.int .i64 (mayC p who T)) := by
  refine CallsR.intro (I0.sound _) mix Try.func35 rfl rfl (by simp [Try.f35]) (by kernel_rfl) (nb := 0) ?_
  unfold Try.f35
  refine Wp.seqI ?_
  obtain ⟨d1, d2, d3, d4⟩ := hT
  refine Wp.regI I0.mono ?_
  refine GL.box I0.mono (by conv => lhs; whnf) rfl (n := 7) rfl rfl ?_
  intro g3
  refine GL.box I0.mono (by conv => lhs; whnf) rfl (n := 3) rfl rfl ?_
  intro g5
  refine GL.assign I0.mono (by conv => lhs; whnf) ?_
  refine GL.doneF ?_
  refine goOn ?_
  refine Wp.seqI ?_
  refine Wp.regI I0.mono ?_
  refine GL.loadW I0.mono (n := 3) rfl rfl rfl rfl (by simp) rfl rfl rfl ?_
  refine GL.call0 I0.mono rfl (Frz.aggc (by exact Frz.pures rfl) (Frz.aggn)) (ht) rfl rfl (fun _ => rfl) ?_
  refine GL.storeW I0.mono (n := 3) rfl rfl rfl rfl rfl rfl rfl (by conv => lhs; whnf) rfl rfl rfl ?_
  refine GL.doneF ?_
  refine goOn ?_
  refine Wp.seqI ?_
  refine Wp.seqI ?_
  refine Wp.regI I0.mono ?_
  refine GL.loadW I0.mono (n := 7) rfl rfl rfl rfl (by simp) rfl rfl rfl ?_
  refine GL.loadW I0.mono (n := 3) rfl rfl rfl rfl (by simp) rfl rfl rfl ?_
  refine GL.call0 I0.mono rfl (Frz.aggc (by exact Frz.pures rfl) (Frz.aggc (by exact Frz.pures rfl) (Frz.aggn))) (iced_ok p hp T (by omega)) rfl rfl (fun _ => rfl) ?_
  refine GL.move I0.mono (by conv => lhs; whnf) ?_
  refine GL.splitAt 12 rfl (fun h12 => ?_) (fun h12 => ?_)
  ·rw [h12]
   skip
   refine GL.guardF rfl ?_
   refine GL.guardF rfl ?_
   refine GL.guardF rfl ?_
   refine GL.guardF rfl ?_
   refine GL.pick I0.mono rfl (by conv => lhs; whnf) ?_
   refine GL.doneF ?_
   refine goOn ?_
   refine Wp.condT rfl ?_
   refine Wp.seqI ?_
   refine Wp.regI I0.mono ?_
   refine GL.assign I0.mono (by conv => lhs; whnf) ?_
   refine GL.doneF ?_
   refine goOn ?_
   refine Wp.retI ?_
   refine thenX.ret ?_
   refine RetX.ret ?_
   refine ⟨_, _, _, _, .cons (.tmp rfl) .nil, .frz (.pure rfl), List.nodup_nil, by simp, ?_⟩
   show LV.int _ _ = LV.int _ _
   congr 1
   unfold mayC
   (rw [if_pos (by simp_all)]; done)
  ·rw [h12]
   skip
   refine GL.guardT rfl ?_
   refine GL.fieldAddr I0.mono (o := 2) rfl rfl rfl rfl (by conv => lhs; whnf) ?_
   refine GL.guardT rfl ?_
   refine GL.load I0.mono rfl rfl rfl rfl (by simp) rfl rfl ?_
   refine GL.guardT rfl ?_
   refine GL.move I0.mono (by conv => lhs; whnf) ?_
   refine GL.guardT rfl ?_
   refine GL.call0 I0.mono rfl (Frz.aggc (by exact Frz.pure rfl) (Frz.aggc (by exact Frz.pure rfl) (Frz.aggn))) (taken_ok T.ices (by omega) who) rfl rfl (fun _ => rfl) ?_
   refine GL.pick I0.mono rfl (by conv => lhs; whnf) ?_
   refine GL.doneF ?_
   refine goOn ?_
   refine Wp.condI rfl (fun h17 => ?_) (fun h17 => ?_)
   ·skip
    refine Wp.seqI ?_
    refine Wp.regI I0.mono ?_
    refine GL.assign I0.mono (by conv => lhs; whnf) ?_
    refine GL.doneF ?_
    refine goOn ?_
    refine Wp.retI ?_
    refine thenX.ret ?_
    refine RetX.ret ?_
    refine ⟨_, _, _, _, .cons (.tmp rfl) .nil, .frz (.pure rfl), List.nodup_nil, by simp, ?_⟩
    show LV.int _ _ = LV.int _ _
    congr 1
    unfold mayC
    (rw [if_pos (by simp_all)]; done)
   ·skip
    refine Wp.skipI ?_
    refine goOn ?_
    refine Wp.seqI ?_
    refine Wp.seqI ?_
    refine Wp.regI I0.mono ?_
    refine GL.fieldAddr I0.mono (o := 1) rfl rfl rfl rfl (by conv => lhs; whnf) ?_
    refine GL.load I0.mono rfl rfl rfl rfl (by simp) rfl rfl ?_
    refine GL.move I0.mono (by conv => lhs; whnf) ?_
    refine GL.call0 I0.mono rfl (Frz.aggc (by exact Frz.pure rfl) (Frz.aggc (by exact Frz.pure rfl) (Frz.aggn))) (taken_ok T.locks (by omega) who) rfl rfl (fun _ => rfl) ?_
    refine GL.move I0.mono (by conv => lhs; whnf) ?_
    refine GL.splitAt 22 rfl (fun h22 => ?_) (fun h22 => ?_)
    ·rw [h22]
     skip
     refine GL.guardF rfl ?_
     refine GL.guardF rfl ?_
     refine GL.guardF rfl ?_
     refine GL.guardF rfl ?_
     refine GL.pick I0.mono rfl (by conv => lhs; whnf) ?_
     refine GL.doneF ?_
     refine goOn ?_
     refine Wp.condT rfl ?_
     refine Wp.seqI ?_
     refine Wp.regI I0.mono ?_
     refine GL.assign I0.mono (by conv => lhs; whnf) ?_
     refine GL.doneF ?_
     refine goOn ?_
     refine Wp.retI ?_
     refine thenX.ret ?_
     refine RetX.ret ?_
     refine ⟨_, _, _, _, .cons (.tmp rfl) .nil, .frz (.pure rfl), List.nodup_nil, by simp, ?_⟩
     show LV.int _ _ = LV.int _ _
     congr 1
     unfold mayC
     (rw [if_neg (by simp_all), if_pos (by simp_all)]; done)
    ·rw [h22]
     skip
     refine GL.guardT rfl ?_
     refine GL.loadW I0.mono (n := 7) rfl rfl rfl rfl (by simp) rfl rfl rfl ?_
     refine GL.guardT rfl ?_
     refine GL.move I0.mono (by conv => lhs; whnf) ?_
     refine GL.guardT rfl ?_
     refine GL.loadW I0.mono (n := 3) rfl rfl rfl rfl (by simp) rfl rfl rfl ?_
     refine GL.guardT rfl ?_
     refine GL.call0 I0.mono rfl (Frz.aggc (by exact Frz.pures rfl) (Frz.aggc (by exact Frz.pure rfl) (Frz.aggc (by exact Frz.pures rfl) (Frz.aggn)))) (moved84_ok p hp who T ⟨d1, d2, d3, d4⟩) rfl rfl (fun _ => rfl) ?_
     refine GL.pick I0.mono rfl (by conv => lhs; whnf) ?_
     refine GL.doneF ?_
     refine goOn ?_
     refine Wp.condI rfl (fun h27 => ?_) (fun h27 => ?_)
     ·skip
      refine Wp.seqI ?_
      refine Wp.regI I0.mono ?_
      refine GL.assign I0.mono (by conv => lhs; whnf) ?_
      refine GL.doneF ?_
      refine goOn ?_
      refine Wp.retI ?_
      refine thenX.ret ?_
      refine RetX.ret ?_
      refine ⟨_, _, _, _, .cons (.tmp rfl) .nil, .frz (.pure rfl), List.nodup_nil, by simp, ?_⟩
      show LV.int _ _ = LV.int _ _
      congr 1
      unfold mayC
      (rw [if_neg (by simp_all), if_pos (by simp_all)]; done)
     ·skip
      refine Wp.skipI ?_
      refine goOn ?_
      refine Wp.seqI ?_
      refine Wp.regI I0.mono ?_
      refine GL.assign I0.mono (by conv => lhs; whnf) ?_
      refine GL.doneF ?_
      refine goOn ?_
      refine Wp.retI ?_
      refine RetX.ret ?_
      refine ⟨_, _, _, _, .cons (.tmp rfl) .nil, .frz (.pure rfl), List.nodup_nil, by simp, ?_⟩
      show LV.int _ _ = LV.int _ _
      congr 1
      unfold mayC
      (rw [if_neg (by simp_all), if_neg (by simp_all)]; done)

theorem may_c (p : Plan) (hp : okPb p = true) (who : Int) (d T : Delta) (hd : OkD d) (hT : OkD T) (e : tidyD d = T) {c : Int} (hc : mayC p who T = c) : CallsV Try.prog 35 [.agg (kp p), .int .i64 who, .agg (kd d)] (.int .i64 c) := hc ▸ may_ok p (okP_of hp) who d T (e ▸ tidy_ok d hd) hT
def pW : Plan := ⟨[[]], [-1, 2], [1], [], [], [], 0⟩
theorem rel_c (p : Plan) (hp : okPb p = true) (who : Int) {D : Delta} (e : relD p who = D) : CallsV Try.prog 36 [.agg (kp p), .int .i64 who] (.agg (kd D)) := e ▸ Release_ok p (okP_of hp) who
theorem mayW : CallsV Try.prog 35 [.agg (kp pW), .int .i64 0, .agg (kd d0)] (.int .i64 0) := may_c pW rfl 0 d0 d0 (okD_of rfl) (okD_of rfl) rfl (by decide)
theorem relW1 : CallsV Try.prog 36 [.agg (kp pW), .int .i64 1] (.agg (kd ⟨[], [], [⟨0, 1, -1⟩]⟩)) := rel_c pW rfl 1 (by decide)
theorem relW2 : CallsV Try.prog 36 [.agg (kp pW), .int .i64 2] (.agg (kd ⟨[], [⟨1, 2, -1⟩], []⟩)) := rel_c pW rfl 2 (by decide)

set_option maxRecDepth 100000 in
set_option maxHeartbeats 4000000 in
theorem wakes09_ok : CallsV Try.prog 38 [] (.bool true) := by
  refine CallsR.intro (I0.sound _) mix Try.func38 rfl rfl (by simp [Try.f38]) (by kernel_rfl) (nb := 0) ?_
  unfold Try.f38
  refine Wp.seqI ?_
  refine Wp.regI I0.mono ?_
  refine GL.assign I0.mono (by conv => lhs; whnf) ?_
  refine GL.doneF ?_
  refine goOn ?_
  refine Wp.seqI ?_
  refine Wp.regI I0.mono ?_
  refine GL.buildSliceM I0.mono (sz := 1) (z := [LV.nils]) (es := em nr [[]]) rfl rfl rfl rfl (by decide) (by decide) (by decide) (FrzP.cons (Frz.aggc (by exact Frz.nils) Frz.aggn) rfl (by decide) rfl (FrzP.nil)) rfl rfl ?_
  intro g2
  refine GL.buildSlice0 I0.mono (sz := 1) (z := [LV.int .i64 0]) (es := em ni [-1, 2]) rfl rfl rfl rfl (by decide) (by decide) (by decide) (FrzP.cons (S := []) (T := []) (Frz.aggc (S := []) (T := []) (Frz.pure rfl) Frz.aggn) rfl (by decide) rfl (FrzP.cons (S := []) (T := []) (Frz.aggc (S := []) (T := []) (Frz.pure rfl) Frz.aggn) rfl (by decide) rfl (FrzP.nil))) rfl ?_
  intro g3
  refine GL.buildSlice0 I0.mono (sz := 1) (z := [LV.int .i64 0]) (es := em ni [1]) rfl rfl rfl rfl (by decide) (by decide) (by decide) (FrzP.cons (S := []) (T := []) (Frz.aggc (S := []) (T := []) (Frz.pure rfl) Frz.aggn) rfl (by decide) rfl (FrzP.nil)) rfl ?_
  intro g4
  refine GL.buildS I0.mono (z := [LV.nils, LV.nils, LV.nils, LV.nils, LV.nils, LV.nils, LV.int .i64 0]) (cs := [_, _, _, _, _, _, _]) (n := 7) rfl rfl rfl (EvS.cons (by conv => lhs; whnf) (EvS.cons (by conv => lhs; whnf) (EvS.cons (by conv => lhs; whnf) (EvS.nil)))) rfl rfl ?_
  refine GL.alloc I0.mono (cs := [LV.nils, LV.nils, LV.nils, LV.nils, LV.nils, LV.nils, LV.int .i64 0]) rfl rfl ?_
  intro g1
  refine GL.storeW I0.mono (n := 7) rfl rfl rfl rfl rfl rfl rfl (by conv => lhs; whnf) rfl rfl rfl ?_
  refine GL.doneF ?_
  refine goWeak (Weak.mark _ _ [128, 192, 256]) ?_
  refine Wp.seqI ?_
  refine Wp.regI I0.mono ?_
  refine GL.loadW I0.mono (n := 7) rfl rfl rfl rfl (by simp) rfl rfl rfl ?_
  refine GL.buildS I0.mono (z := [LV.nils, LV.nils, LV.nils]) (cs := [_, _, _]) (n := 3) rfl rfl rfl (EvS.nil) rfl rfl ?_
  refine GL.call0 I0.mono rfl (Frz.aggc (by exact (Frz.aggc (by exact Frz.whole rfl rfl rfl rfl (by exact em_len _ _)) (Frz.aggc (by exact Frz.whole rfl rfl rfl rfl (by exact em_len _ _)) (Frz.aggc (by exact Frz.whole rfl rfl rfl rfl (by exact em_len _ _)) (Frz.aggc (by exact Frz.nils) (Frz.aggc (by exact Frz.nils) (Frz.aggc (by exact Frz.nils) (Frz.aggc (by exact Frz.pure rfl) Frz.aggn)))))))) (Frz.aggc (Frz.pure rfl) (Frz.aggc (by exact (Frz.aggc (by exact Frz.nils) (Frz.aggc (by exact Frz.nils) (Frz.aggc (by exact Frz.nils) Frz.aggn)))) Frz.aggn))) (mayW) rfl rfl (fun _ => rfl) ?_
  refine GL.bin I0.mono (v := .bool true) (by kernel_rfl) ?_
  refine GL.move I0.mono (by conv => lhs; whnf) ?_
  refine GL.guardT rfl ?_
  refine GL.loadW I0.mono (n := 7) rfl rfl rfl rfl (by simp) rfl rfl rfl ?_
  refine GL.guardT rfl ?_
  refine GL.call0 I0.mono rfl (Frz.aggc (by exact (Frz.aggc (by exact Frz.whole rfl rfl rfl rfl (by exact em_len _ _)) (Frz.aggc (by exact Frz.whole rfl rfl rfl rfl (by exact em_len _ _)) (Frz.aggc (by exact Frz.whole rfl rfl rfl rfl (by exact em_len _ _)) (Frz.aggc (by exact Frz.nils) (Frz.aggc (by exact Frz.nils) (Frz.aggc (by exact Frz.nils) (Frz.aggc (by exact Frz.pure rfl) Frz.aggn)))))))) (Frz.aggc (Frz.pure rfl) Frz.aggn)) (relW1) rfl rfl (fun _ => rfl) ?_
  refine GL.guardT rfl ?_
  refine GL.field I0.mono rfl rfl rfl rfl rfl rfl ?_
  refine GL.guardT rfl ?_
  refine GL.lenF I0.mono rfl rfl rfl ?_
  refine GL.guardT rfl ?_
  refine GL.bin I0.mono (v := .bool true) (by kernel_rfl) ?_
  refine GL.pick I0.mono rfl (by conv => lhs; whnf) ?_
  refine GL.move I0.mono (by conv => lhs; whnf) ?_
  refine GL.guardT rfl ?_
  refine GL.loadW I0.mono (n := 7) rfl rfl rfl rfl (by simp) rfl rfl rfl ?_
  refine GL.guardT rfl ?_
  refine GL.call0 I0.mono rfl (Frz.aggc (by exact (Frz.aggc (by exact Frz.whole rfl rfl rfl rfl (by exact em_len _ _)) (Frz.aggc (by exact Frz.whole rfl rfl rfl rfl (by exact em_len _ _)) (Frz.aggc (by exact Frz.whole rfl rfl rfl rfl (by exact em_len _ _)) (Frz.aggc (by exact Frz.nils) (Frz.aggc (by exact Frz.nils) (Frz.aggc (by exact Frz.nils) (Frz.aggc (by exact Frz.pure rfl) Frz.aggn)))))))) (Frz.aggc (Frz.pure rfl) Frz.aggn)) (relW2) rfl rfl (fun _ => rfl) ?_
  refine GL.guardT rfl ?_
  refine GL.field I0.mono rfl rfl rfl rfl rfl rfl ?_
  refine GL.guardT rfl ?_
  refine GL.lenF I0.mono rfl rfl rfl ?_
  refine GL.guardT rfl ?_
  refine GL.bin I0.mono (v := .bool true) (by kernel_rfl) ?_
  refine GL.pick I0.mono rfl (by conv => lhs; whnf) ?_
  refine GL.assign I0.mono (by conv => lhs; whnf) ?_
  refine GL.doneF ?_
  refine goOn ?_
  refine Wp.retI ?_
  refine RetX.ret ?_
  refine ⟨_, _, _, _, .cons (.tmp rfl) .nil, .frz (.pure rfl), List.nodup_nil, by simp, ?_⟩
  rfl

end Go.Proofs.Ytffnlhjdlhpmjaa
