/- Check and Kept of package audit, walked. -/
import Derived.Test.YtffnlhjdlhpmjaaProg
import Derived.Test.YtffnlhjdlhpmjaaMb
import Derived.KernelRfl
set_option linter.all false
namespace Go.Proofs.Ytffnlhjdlhpmjaa
open Go.Proofs Mv
theorem drop0 {α : Type} (l : List α) : l.drop 0 = l := rfl
theorem flat_a2 (a b : Int) : FlatI (.agg [.int .i64 a, .int .i64 b]) := .aggc (.sca rfl) (.aggc (.sca rfl) .aggn)
theorem eqA2 (a b c d : Int) : eqAgg Try.prog 130 [.int .i64 a, .int .i64 b] [.int .i64 c, .int .i64 d] = some (a == c && (b == d && true)) := by kernel_rfl

set_option maxRecDepth 100000 in
set_option maxHeartbeats 4000000 in
theorem awhere_ok (p : Plan) (hp : OkP p) (s : Int) : CallsV Try.prog 80 [.agg (kp p), .int .i64 s] (.agg [.int .i64 (whereR p.routes s).1, .int .i64 (whereR p.routes s).2]) := by
  refine CallsR.intro (I0.sound _) mix Try.func80 rfl rfl (by simp [Try.f80]) (by kernel_rfl) (nb := 0) ?_
  unfold Try.f80
  refine Wp.seqI ?_
  have hpr := hp.routes
  refine Wp.regI I0.mono ?_
  refine GL.box I0.mono (by conv => lhs; whnf) rfl (n := 7) rfl rfl ?_
  intro g2
  refine GL.alloc I0.mono (cs := [LV.int .i64 0, LV.int .i64 0]) rfl rfl ?_
  intro g4
  refine GL.doneF ?_
  refine goOn ?_
  refine Wp.seqI ?_
  refine Wp.seqI ?_
  refine Wp.regI I0.mono ?_
  refine GL.fieldAddr I0.mono (o := 0) rfl rfl rfl rfl (by conv => lhs; whnf) ?_
  refine GL.load I0.mono rfl rfl rfl rfl (by simp) rfl rfl ?_
  refine GL.lenF I0.mono rfl rfl (em_len _ _) ?_
  refine GL.move I0.mono (by conv => lhs; whnf) ?_
  refine GL.doneF ?_
  refine goOn ?_
  refine Wp.blockI ?_
  refine Wp.loopI I0.mono (α := Nat) (fun i st => (i ≤ p.routes.length ∧ whereGo s p.routes 0 = whereGo s (p.routes.drop i) (i : Int)) ∧ ∃ m0, st = ⟨(updS (updS (updS (updS (updS (fun _ => LV.undef) 1 (.int .i64 s)) 4 (.ref 256 g4 0 0)) 9 (.sl (em nr p.routes))) 10 (.int .i64 (p.routes.length : Int))) 11 (.int .i64 (i : Int))), effM m0 [(256, ⟨g4, false, .var, 2, [[.int .i64 0, .int .i64 0]]⟩)]⟩) (fun i => p.routes.length - i) 0 ⟨_, (LessS.weak (LessS.upd (LessS.upd (LessS.upd (LessS.upd (LessS.upd (LessS.nil _) rfl) rfl) rfl) rfl) rfl) _), ⟨Nat.zero_le _, rfl⟩, _, (congrArg (St.mk _) (effM_eq (Has.cons rfl Has.nil)).symm)⟩ ?_
  rintro i _ ⟨⟨hi, hA⟩, m0, rfl⟩
  refine Wp.seqI ?_
  refine Wp.regI I0.mono ?_
  refine GL.bin I0.mono rfl ?_
  refine GL.doneF ?_
  refine goOn ?_
  refine Wp.seqI ?_
  refine Wp.condI rfl (fun h12 => ?_) (fun h12 => ?_)
  ·replace h12 := of_decide_eq_true h12
   refine Wp.skipI ?_
   refine goOn ?_
   refine Wp.seqI ?_
   refine Wp.blockI ?_
   refine Wp.seqI ?_
   refine Wp.regI I0.mono ?_
   refine GL.move I0.mono (by conv => lhs; whnf) ?_
   refine GL.indexAddrF I0.mono (sz := 1) rfl rfl rfl rfl (by omega) (by (rw [em_len]; omega)) (by intro e he; obtain ⟨a, -, rfl⟩ := List.mem_map.1 he; rfl) (by with_reducible exact Int.toNat_natCast _) ?_
   refine GL.loadF I0.mono rfl rfl (em_get (by omega)) rfl ?_
   refine GL.assign I0.mono (by conv => lhs; whnf) ?_
   refine GL.assign I0.mono (by conv => lhs; whnf) ?_
   refine GL.doneF ?_
   refine goOn ?_
   refine Wp.seqI ?_
   refine Wp.regI I0.mono ?_
   refine GL.move I0.mono (by conv => lhs; whnf) ?_
   refine GL.move I0.mono (by conv => lhs; whnf) ?_
   refine GL.call0 I0.mono rfl (Frz.aggc (by exact Frz.pure rfl) (Frz.aggc (by exact Frz.pure rfl) (Frz.aggn))) (index_ok _ (by have := hp.each _ (getD_mem (l := p.routes) (j := i) (by omega)); unfold Short; omega) _) rfl rfl (fun _ => rfl) ?_
   refine GL.assign I0.mono (by conv => lhs; whnf) ?_
   refine GL.doneF ?_
   refine goOn ?_
   refine Wp.seqI ?_
   refine Wp.regI I0.mono ?_
   refine GL.move I0.mono (by conv => lhs; whnf) ?_
   refine GL.bin I0.mono rfl ?_
   refine GL.doneF ?_
   refine goOn ?_
   refine Wp.condI rfl (fun h20 => ?_) (fun h20 => ?_)
   ·replace h20 := of_decide_eq_true h20
    refine Wp.seqI ?_
    refine Wp.regI I0.mono ?_
    refine GL.move I0.mono (by conv => lhs; whnf) ?_
    refine GL.move I0.mono (by conv => lhs; whnf) ?_
    refine GL.buildS I0.mono (z := [LV.int .i64 0, LV.int .i64 0]) (cs := [_, _]) (n := 2) rfl rfl rfl (EvS.cons (by conv => lhs; whnf) (EvS.cons (by conv => lhs; whnf) (EvS.nil))) rfl rfl ?_
    refine GL.storeW I0.mono (n := 2) rfl rfl rfl rfl rfl rfl rfl (by conv => lhs; whnf) rfl rfl rfl ?_
    refine GL.doneF ?_
    refine goOn ?_
    refine Wp.retI ?_
    refine blockX.ret ?_
    refine thenX.ret ?_
    refine thenX.ret ?_
    refine blockX.ret ?_
    refine thenX.ret ?_
    refine RetX.ret ?_
    refine ⟨_, _, _, _, .cons (.cellA (n := 2) rfl rfl rfl (by simp) rfl rfl rfl (Nat.le_of_ble_eq_true rfl)) .nil, .frz (.pures rfl), List.nodup_nil, by simp, ?_⟩
    (rw [whereR, hA, where_hit (by omega) (by omega)]; exact rfl)
   ·replace h20 := of_decide_eq_false h20
    refine Wp.skipI ?_
    refine blockX.normal ?_
    refine goOn ?_
    refine Wp.regI I0.mono ?_
    refine GL.addR I0.mono rfl rfl (by omega) ?_
    refine GL.move I0.mono (by conv => lhs; whnf) ?_
    refine GL.doneF ?_
    refine ⟨i + 1, (by dsimp only; omega), _, (LessS.weak (LessS.upd (LessS.upd (LessS.upd (LessS.upd (LessS.upd (LessS.nil _) rfl) rfl) rfl) rfl) rfl) _), ⟨by omega, by rw [hA, where_go (by omega) (by omega)]⟩, _, (congrArg (St.mk _) (effM_eq (Has.cons rfl Has.nil)).symm)⟩
  ·replace h12 := of_decide_eq_false h12
   refine Wp.exitI ?_
   refine thenX.exit ?_
   refine thenX.exit ?_
   refine blockX.out ?_
   refine goOn ?_
   refine Wp.seqI ?_
   refine Wp.regI I0.mono ?_
   refine GL.buildS I0.mono (z := [LV.int .i64 0, LV.int .i64 0]) (cs := [_, _]) (n := 2) rfl rfl rfl (EvS.cons (by conv => lhs; whnf) (EvS.cons (by conv => lhs; whnf) (EvS.nil))) rfl rfl ?_
   refine GL.storeW I0.mono (n := 2) rfl rfl rfl rfl rfl rfl rfl (by conv => lhs; whnf) rfl rfl rfl ?_
   refine GL.doneF ?_
   refine goOn ?_
   refine Wp.retI ?_
   refine RetX.ret ?_
   refine ⟨_, _, _, _, .cons (.cellA (n := 2) rfl rfl rfl (by simp) rfl rfl rfl (Nat.le_of_ble_eq_true rfl)) .nil, .frz (.pures rfl), List.nodup_nil, by simp, ?_⟩
   (rw [whereR, hA, where_end (by omega)]; exact rfl)

set_option maxRecDepth 100000 in
set_option maxHeartbeats 4000000 in
theorem audit_ok (i : Inst) (hs : i.Short) (p : Plan) (hp : OkP p) : CallsV Try.prog 32 [ei i, .agg (kp p)] (.int .i64 (auditC i p)) := by
  refine CallsR.intro (I0.sound _) mix Try.func32 rfl rfl (by simp [Try.f32]) (by kernel_rfl) (nb := 0) ?_
  unfold Try.f32
  refine Wp.seqI ?_
  have ⟨p1, p2, p3, p4, p5, p6, p7⟩ := hp
  refine Wp.regI I0.mono ?_
  refine GL.box I0.mono (by conv => lhs; whnf) rfl (n := 4) rfl rfl ?_
  intro g2
  refine GL.box I0.mono (by conv => lhs; whnf) rfl (n := 7) rfl rfl ?_
  intro g3
  refine GL.assign I0.mono (by conv => lhs; whnf) ?_
  refine GL.doneF ?_
  refine goOn ?_
  refine Wp.seqI ?_
  refine Wp.seqI ?_
  refine Wp.regI I0.mono ?_
  refine GL.loadW I0.mono (n := 4) rfl rfl rfl rfl (by simp) rfl rfl rfl ?_
  refine GL.call0 I0.mono rfl (Frz.aggc (by exact Frz.pures rfl) (Frz.aggn)) (icheck_ok i hs) rfl rfl (fun _ => rfl) ?_
  refine GL.assign I0.mono (by conv => lhs; whnf) ?_
  refine GL.doneF ?_
  refine goOn ?_
  refine Wp.blockI ?_
  refine Wp.seqI ?_
  refine Wp.regI I0.mono ?_
  refine GL.move I0.mono (by conv => lhs; whnf) ?_
  refine GL.bin I0.mono rfl ?_
  refine GL.assign I0.mono (by conv => lhs; whnf) ?_
  refine GL.doneF ?_
  refine goOn ?_
  refine Wp.condI rfl (fun h12 => ?_) (fun h12 => ?_)
  ·replace h12 := bne_true h12
   have hck : checkB i = false := by
     rw [← Bool.not_eq_true]
     intro hc
     rw [if_pos hc] at h12
     exact h12 rfl
   refine Wp.seqI ?_
   refine Wp.regI I0.mono ?_
   refine GL.move I0.mono (by conv => lhs; whnf) ?_
   refine GL.assign I0.mono (by conv => lhs; whnf) ?_
   refine GL.doneF ?_
   refine goOn ?_
   refine Wp.retI ?_
   refine blockX.ret ?_
   refine thenX.ret ?_
   refine RetX.ret ?_
   refine ⟨_, _, _, _, .cons (.tmp rfl) .nil, .frz (.pure rfl), List.nodup_nil, by simp, ?_⟩
   show LV.int _ _ = LV.int _ _
   congr 1
   unfold auditC
   first
   | (rw [if_neg (show ¬ checkB i = true by rw [hck]; simp), if_pos hck]; done)
   | (rw [if_neg (show ¬ checkB i = false by rw [hck]; simp), if_pos (show (lengthsB i p && (holdersB p.lock && holdersB p.ice)) = false by rw [nf h21]; rfl)]; done)
   | (rw [if_neg (show ¬ checkB i = false by rw [hck]; simp), if_pos (show (lengthsB i p && (holdersB p.lock && holdersB p.ice)) = false by rw [nf h27, Bool.false_and, Bool.and_false])]; done)
   | (rw [if_neg (show ¬ checkB i = false by rw [hck]; simp), if_pos (show (lengthsB i p && (holdersB p.lock && holdersB p.ice)) = false by rw [nf h16, Bool.and_false, Bool.and_false])]; done)
   | (rw [if_neg (show ¬ checkB i = false by rw [hck]; simp), if_neg (show ¬ (lengthsB i p && (holdersB p.lock && holdersB p.ice)) = false by rw [nt h21, nt h27, nt h16]; simp), if_pos (nf h33)]; done)
   | (rw [if_neg (show ¬ checkB i = false by rw [hck]; simp), if_neg (show ¬ (lengthsB i p && (holdersB p.lock && holdersB p.ice)) = false by rw [nt h21, nt h27, nt h16]; simp), if_neg (show ¬ onceA i.stops.length p.routes = false by rw [nt h33]; simp), if_pos (driven_no (k := k) (by omega) (nf h55))]; done)
   | (rw [if_neg (show ¬ checkB i = false by rw [hck]; simp), if_neg (show ¬ (lengthsB i p && (holdersB p.lock && holdersB p.ice)) = false by rw [nt h21, nt h27, nt h16]; simp), if_neg (show ¬ onceA i.stops.length p.routes = false by rw [nt h33]; simp), if_neg (show ¬ drivenB i p.routes = false by rw [driven_yes fun j hj => hD j (by omega)]; simp)]; done)
  
  ·replace h12 := bne_false h12
   have hck : checkB i = true := by
     by_cases hc : checkB i = true
     · exact hc
     · rw [if_neg hc] at h12
       cases h12
   refine Wp.seqI ?_
   refine Wp.regI I0.mono ?_
   refine GL.loadW I0.mono (n := 4) rfl rfl rfl rfl (by simp) rfl rfl rfl ?_
   refine GL.loadW I0.mono (n := 7) rfl rfl rfl rfl (by simp) rfl rfl rfl ?_
   refine GL.call0 I0.mono rfl (Frz.aggc (by exact Frz.pures rfl) (Frz.aggc (by exact Frz.pures rfl) (Frz.aggn))) (lengths_ok i hs p hp) rfl rfl (fun _ => rfl) ?_
   refine GL.un I0.mono rfl ?_
   refine GL.move I0.mono (by conv => lhs; whnf) ?_
   refine GL.splitAt 21 rfl (fun h21 => ?_) (fun h21 => ?_)
   ·rw [h21]
    skip
    refine GL.guardF rfl ?_
    refine GL.guardF rfl ?_
    refine GL.guardF rfl ?_
    refine GL.guardF rfl ?_
    refine GL.pick I0.mono rfl (by conv => lhs; whnf) ?_
    refine GL.move I0.mono (by conv => lhs; whnf) ?_
    refine GL.guardF rfl ?_
    refine GL.guardF rfl ?_
    refine GL.guardF rfl ?_
    refine GL.guardF rfl ?_
    refine GL.pick I0.mono rfl (by conv => lhs; whnf) ?_
    refine GL.assign I0.mono (by conv => lhs; whnf) ?_
    refine GL.doneF ?_
    refine goOn ?_
    refine Wp.condT rfl ?_
    refine Wp.seqI ?_
    refine Wp.regI I0.mono ?_
    refine GL.assign I0.mono (by conv => lhs; whnf) ?_
    refine GL.doneF ?_
    refine goOn ?_
    refine Wp.retI ?_
    refine blockX.ret ?_
    refine thenX.ret ?_
    refine RetX.ret ?_
    refine ⟨_, _, _, _, .cons (.tmp rfl) .nil, .frz (.pure rfl), List.nodup_nil, by simp, ?_⟩
    show LV.int _ _ = LV.int _ _
    congr 1
    unfold auditC
    first
    | (rw [if_neg (show ¬ checkB i = true by rw [hck]; simp), if_pos hck]; done)
    | (rw [if_neg (show ¬ checkB i = false by rw [hck]; simp), if_pos (show (lengthsB i p && (holdersB p.lock && holdersB p.ice)) = false by rw [nf h21]; rfl)]; done)
    | (rw [if_neg (show ¬ checkB i = false by rw [hck]; simp), if_pos (show (lengthsB i p && (holdersB p.lock && holdersB p.ice)) = false by rw [nf h27, Bool.false_and, Bool.and_false])]; done)
    | (rw [if_neg (show ¬ checkB i = false by rw [hck]; simp), if_pos (show (lengthsB i p && (holdersB p.lock && holdersB p.ice)) = false by rw [nf h16, Bool.and_false, Bool.and_false])]; done)
    | (rw [if_neg (show ¬ checkB i = false by rw [hck]; simp), if_neg (show ¬ (lengthsB i p && (holdersB p.lock && holdersB p.ice)) = false by rw [nt h21, nt h27, nt h16]; simp), if_pos (nf h33)]; done)
    | (rw [if_neg (show ¬ checkB i = false by rw [hck]; simp), if_neg (show ¬ (lengthsB i p && (holdersB p.lock && holdersB p.ice)) = false by rw [nt h21, nt h27, nt h16]; simp), if_neg (show ¬ onceA i.stops.length p.routes = false by rw [nt h33]; simp), if_pos (driven_no (k := k) (by omega) (nf h55))]; done)
    | (rw [if_neg (show ¬ checkB i = false by rw [hck]; simp), if_neg (show ¬ (lengthsB i p && (holdersB p.lock && holdersB p.ice)) = false by rw [nt h21, nt h27, nt h16]; simp), if_neg (show ¬ onceA i.stops.length p.routes = false by rw [nt h33]; simp), if_neg (show ¬ drivenB i p.routes = false by rw [driven_yes fun j hj => hD j (by omega)]; simp)]; done)
   
   ·rw [h21]
    skip
    refine GL.guardT rfl ?_
    refine GL.fieldAddr I0.mono (o := 1) rfl rfl rfl rfl (by conv => lhs; whnf) ?_
    refine GL.guardT rfl ?_
    refine GL.load I0.mono rfl rfl rfl rfl (by simp) rfl rfl ?_
    refine GL.guardT rfl ?_
    refine GL.call0 I0.mono rfl (Frz.aggc (by exact Frz.pure rfl) (Frz.aggn)) (holders_ok2 _ (by omega)) rfl rfl (fun _ => rfl) ?_
    refine GL.guardT rfl ?_
    refine GL.un I0.mono rfl ?_
    refine GL.pick I0.mono rfl (by conv => lhs; whnf) ?_
    refine GL.move I0.mono (by conv => lhs; whnf) ?_
    refine GL.splitAt 27 rfl (fun h27 => ?_) (fun h27 => ?_)
    ·rw [h27]
     skip
     refine GL.guardF rfl ?_
     refine GL.guardF rfl ?_
     refine GL.guardF rfl ?_
     refine GL.guardF rfl ?_
     refine GL.pick I0.mono rfl (by conv => lhs; whnf) ?_
     refine GL.assign I0.mono (by conv => lhs; whnf) ?_
     refine GL.doneF ?_
     refine goOn ?_
     refine Wp.condT rfl ?_
     refine Wp.seqI ?_
     refine Wp.regI I0.mono ?_
     refine GL.assign I0.mono (by conv => lhs; whnf) ?_
     refine GL.doneF ?_
     refine goOn ?_
     refine Wp.retI ?_
     refine blockX.ret ?_
     refine thenX.ret ?_
     refine RetX.ret ?_
     refine ⟨_, _, _, _, .cons (.tmp rfl) .nil, .frz (.pure rfl), List.nodup_nil, by simp, ?_⟩
     show LV.int _ _ = LV.int _ _
     congr 1
     unfold auditC
     first
     | (rw [if_neg (show ¬ checkB i = true by rw [hck]; simp), if_pos hck]; done)
     | (rw [if_neg (show ¬ checkB i = false by rw [hck]; simp), if_pos (show (lengthsB i p && (holdersB p.lock && holdersB p.ice)) = false by rw [nf h21]; rfl)]; done)
     | (rw [if_neg (show ¬ checkB i = false by rw [hck]; simp), if_pos (show (lengthsB i p && (holdersB p.lock && holdersB p.ice)) = false by rw [nf h27, Bool.false_and, Bool.and_false])]; done)
     | (rw [if_neg (show ¬ checkB i = false by rw [hck]; simp), if_pos (show (lengthsB i p && (holdersB p.lock && holdersB p.ice)) = false by rw [nf h16, Bool.and_false, Bool.and_false])]; done)
     | (rw [if_neg (show ¬ checkB i = false by rw [hck]; simp), if_neg (show ¬ (lengthsB i p && (holdersB p.lock && holdersB p.ice)) = false by rw [nt h21, nt h27, nt h16]; simp), if_pos (nf h33)]; done)
     | (rw [if_neg (show ¬ checkB i = false by rw [hck]; simp), if_neg (show ¬ (lengthsB i p && (holdersB p.lock && holdersB p.ice)) = false by rw [nt h21, nt h27, nt h16]; simp), if_neg (show ¬ onceA i.stops.length p.routes = false by rw [nt h33]; simp), if_pos (driven_no (k := k) (by omega) (nf h55))]; done)
     | (rw [if_neg (show ¬ checkB i = false by rw [hck]; simp), if_neg (show ¬ (lengthsB i p && (holdersB p.lock && holdersB p.ice)) = false by rw [nt h21, nt h27, nt h16]; simp), if_neg (show ¬ onceA i.stops.length p.routes = false by rw [nt h33]; simp), if_neg (show ¬ drivenB i p.routes = false by rw [driven_yes fun j hj => hD j (by omega)]; simp)]; done)
    
    ·rw [h27]
     skip
     refine GL.guardT rfl ?_
     refine GL.fieldAddr I0.mono (o := 2) rfl rfl rfl rfl (by conv => lhs; whnf) ?_
     refine GL.guardT rfl ?_
     refine GL.load I0.mono rfl rfl rfl rfl (by simp) rfl rfl ?_
     refine GL.guardT rfl ?_
     refine GL.call0 I0.mono rfl (Frz.aggc (by exact Frz.pure rfl) (Frz.aggn)) (holders_ok2 _ (by omega)) rfl rfl (fun _ => rfl) ?_
     refine GL.guardT rfl ?_
     refine GL.un I0.mono rfl ?_
     refine GL.pick I0.mono rfl (by conv => lhs; whnf) ?_
     refine GL.assign I0.mono (by conv => lhs; whnf) ?_
     refine GL.doneF ?_
     refine goOn ?_
     refine Wp.condI rfl (fun h16 => ?_) (fun h16 => ?_)
     ·skip
      refine Wp.seqI ?_
      refine Wp.regI I0.mono ?_
      refine GL.assign I0.mono (by conv => lhs; whnf) ?_
      refine GL.doneF ?_
      refine goOn ?_
      refine Wp.retI ?_
      refine blockX.ret ?_
      refine thenX.ret ?_
      refine RetX.ret ?_
      refine ⟨_, _, _, _, .cons (.tmp rfl) .nil, .frz (.pure rfl), List.nodup_nil, by simp, ?_⟩
      show LV.int _ _ = LV.int _ _
      congr 1
      unfold auditC
      first
      | (rw [if_neg (show ¬ checkB i = true by rw [hck]; simp), if_pos hck]; done)
      | (rw [if_neg (show ¬ checkB i = false by rw [hck]; simp), if_pos (show (lengthsB i p && (holdersB p.lock && holdersB p.ice)) = false by rw [nf h21]; rfl)]; done)
      | (rw [if_neg (show ¬ checkB i = false by rw [hck]; simp), if_pos (show (lengthsB i p && (holdersB p.lock && holdersB p.ice)) = false by rw [nf h27, Bool.false_and, Bool.and_false])]; done)
      | (rw [if_neg (show ¬ checkB i = false by rw [hck]; simp), if_pos (show (lengthsB i p && (holdersB p.lock && holdersB p.ice)) = false by rw [nf h16, Bool.and_false, Bool.and_false])]; done)
      | (rw [if_neg (show ¬ checkB i = false by rw [hck]; simp), if_neg (show ¬ (lengthsB i p && (holdersB p.lock && holdersB p.ice)) = false by rw [nt h21, nt h27, nt h16]; simp), if_pos (nf h33)]; done)
      | (rw [if_neg (show ¬ checkB i = false by rw [hck]; simp), if_neg (show ¬ (lengthsB i p && (holdersB p.lock && holdersB p.ice)) = false by rw [nt h21, nt h27, nt h16]; simp), if_neg (show ¬ onceA i.stops.length p.routes = false by rw [nt h33]; simp), if_pos (driven_no (k := k) (by omega) (nf h55))]; done)
      | (rw [if_neg (show ¬ checkB i = false by rw [hck]; simp), if_neg (show ¬ (lengthsB i p && (holdersB p.lock && holdersB p.ice)) = false by rw [nt h21, nt h27, nt h16]; simp), if_neg (show ¬ onceA i.stops.length p.routes = false by rw [nt h33]; simp), if_neg (show ¬ drivenB i p.routes = false by rw [driven_yes fun j hj => hD j (by omega)]; simp)]; done)
     
     ·skip
      refine Wp.seqI ?_
      refine Wp.regI I0.mono ?_
      refine GL.loadW I0.mono (n := 4) rfl rfl rfl rfl (by simp) rfl rfl rfl ?_
      refine GL.fieldAddr I0.mono (o := 0) rfl rfl rfl rfl (by conv => lhs; whnf) ?_
      refine GL.load I0.mono rfl rfl rfl rfl (by simp) rfl rfl ?_
      refine GL.call0 I0.mono rfl (Frz.aggc (by exact Frz.pures rfl) (Frz.aggc (by exact Frz.pure rfl) (Frz.aggn))) (onceA_ok i hs _ p1 p2) rfl rfl (fun _ => rfl) ?_
      refine GL.un I0.mono rfl ?_
      refine GL.assign I0.mono (by conv => lhs; whnf) ?_
      refine GL.doneF ?_
      refine goOn ?_
      refine Wp.condI rfl (fun h33 => ?_) (fun h33 => ?_)
      ·skip
       refine Wp.seqI ?_
       refine Wp.regI I0.mono ?_
       refine GL.assign I0.mono (by conv => lhs; whnf) ?_
       refine GL.doneF ?_
       refine goOn ?_
       refine Wp.retI ?_
       refine blockX.ret ?_
       refine thenX.ret ?_
       refine RetX.ret ?_
       refine ⟨_, _, _, _, .cons (.tmp rfl) .nil, .frz (.pure rfl), List.nodup_nil, by simp, ?_⟩
       show LV.int _ _ = LV.int _ _
       congr 1
       unfold auditC
       first
       | (rw [if_neg (show ¬ checkB i = true by rw [hck]; simp), if_pos hck]; done)
       | (rw [if_neg (show ¬ checkB i = false by rw [hck]; simp), if_pos (show (lengthsB i p && (holdersB p.lock && holdersB p.ice)) = false by rw [nf h21]; rfl)]; done)
       | (rw [if_neg (show ¬ checkB i = false by rw [hck]; simp), if_pos (show (lengthsB i p && (holdersB p.lock && holdersB p.ice)) = false by rw [nf h27, Bool.false_and, Bool.and_false])]; done)
       | (rw [if_neg (show ¬ checkB i = false by rw [hck]; simp), if_pos (show (lengthsB i p && (holdersB p.lock && holdersB p.ice)) = false by rw [nf h16, Bool.and_false, Bool.and_false])]; done)
       | (rw [if_neg (show ¬ checkB i = false by rw [hck]; simp), if_neg (show ¬ (lengthsB i p && (holdersB p.lock && holdersB p.ice)) = false by rw [nt h21, nt h27, nt h16]; simp), if_pos (nf h33)]; done)
       | (rw [if_neg (show ¬ checkB i = false by rw [hck]; simp), if_neg (show ¬ (lengthsB i p && (holdersB p.lock && holdersB p.ice)) = false by rw [nt h21, nt h27, nt h16]; simp), if_neg (show ¬ onceA i.stops.length p.routes = false by rw [nt h33]; simp), if_pos (driven_no (k := k) (by omega) (nf h55))]; done)
       | (rw [if_neg (show ¬ checkB i = false by rw [hck]; simp), if_neg (show ¬ (lengthsB i p && (holdersB p.lock && holdersB p.ice)) = false by rw [nt h21, nt h27, nt h16]; simp), if_neg (show ¬ onceA i.stops.length p.routes = false by rw [nt h33]; simp), if_neg (show ¬ drivenB i p.routes = false by rw [driven_yes fun j hj => hD j (by omega)]; simp)]; done)
      
      ·skip
       refine Wp.skipI ?_
       refine blockX.normal ?_
       refine goOn ?_
       refine Wp.seqI ?_
       refine Wp.seqI ?_
       refine Wp.regI I0.mono ?_
       refine GL.fieldAddr I0.mono (o := 0) rfl rfl rfl rfl (by conv => lhs; whnf) ?_
       refine GL.load I0.mono rfl rfl rfl rfl (by simp) rfl rfl ?_
       refine GL.lenF I0.mono rfl rfl (em_len _ _) ?_
       refine GL.move I0.mono (by conv => lhs; whnf) ?_
       refine GL.doneF ?_
       refine goOn ?_
       refine Wp.blockI ?_
       refine Wp.loopI I0.mono (α := Nat) (fun k st => (k ≤ p.routes.length ∧ ∀ j, j < k → drivenK i p.routes j = true) ∧ ∃ m0, st = ⟨(updS (updS (updS (updS (fun _ => LV.undef) 2 (.ref 128 g2 0 0)) 40 (.sl (em nr p.routes))) 41 (.int .i64 (p.routes.length : Int))) 42 (.int .i64 (k : Int))), effM m0 [(128, ⟨g2, false, .var, 4, [ic i]⟩)]⟩) (fun k => p.routes.length - k) 0 ⟨_, (LessS.weak (LessS.upd (LessS.upd (LessS.upd (LessS.upd (LessS.nil _) rfl) rfl) rfl) rfl) _), ⟨Nat.zero_le _, fun j h => by omega⟩, _, (congrArg (St.mk _) (effM_eq (Has.cons rfl Has.nil)).symm)⟩ ?_
       rintro k _ ⟨⟨hk, hD⟩, m0, rfl⟩
       refine Wp.seqI ?_
       refine Wp.regI I0.mono ?_
       refine GL.bin I0.mono rfl ?_
       refine GL.doneF ?_
       refine goOn ?_
       refine Wp.seqI ?_
       refine Wp.condI rfl (fun h43 => ?_) (fun h43 => ?_)
       ·replace h43 := of_decide_eq_true h43
        refine Wp.skipI ?_
        refine goOn ?_
        refine Wp.seqI ?_
        refine Wp.blockI ?_
        refine Wp.seqI ?_
        refine Wp.regI I0.mono ?_
        refine GL.move I0.mono (by conv => lhs; whnf) ?_
        refine GL.indexAddrF I0.mono (sz := 1) rfl rfl rfl rfl (by omega) (by (rw [em_len]; omega)) (by intro e he; obtain ⟨a, -, rfl⟩ := List.mem_map.1 he; rfl) (by with_reducible exact Int.toNat_natCast _) ?_
        refine GL.loadF I0.mono rfl rfl (em_get (by omega)) rfl ?_
        refine GL.assign I0.mono (by conv => lhs; whnf) ?_
        refine GL.assign I0.mono (by conv => lhs; whnf) ?_
        refine GL.doneF ?_
        refine goOn ?_
        refine Wp.seqI ?_
        refine Wp.regI I0.mono ?_
        refine GL.loadW I0.mono (n := 4) rfl rfl rfl rfl (by simp) rfl rfl rfl ?_
        refine GL.move I0.mono (by conv => lhs; whnf) ?_
        refine GL.move I0.mono (by conv => lhs; whnf) ?_
        refine GL.call0 I0.mono rfl (Frz.aggc (by exact Frz.pures rfl) (Frz.aggc (by exact Frz.pure rfl) (Frz.aggc (by exact Frz.pure rfl) (Frz.aggn)))) (eval_ok i hs _ _ (by have := p2 _ (getD_mem (l := p.routes) (j := k) (by omega)); unfold Short; omega)) rfl rfl (fun _ => rfl) ?_
        refine GL.move I0.mono (by conv => lhs; whnf) ?_
        refine GL.extract I0.mono rfl rfl ?_
        refine GL.extract I0.mono rfl rfl ?_
        refine GL.alloc I0.mono (cs := [LV.nils, LV.nils, LV.int .i64 0, LV.int .i64 0]) rfl rfl ?_
        intro g8
        refine GL.storeW I0.mono (n := 4) rfl rfl rfl rfl rfl rfl rfl (by conv => lhs; whnf) rfl rfl rfl ?_
        refine GL.assign I0.mono (by conv => lhs; whnf) ?_
        refine GL.doneF ?_
        refine goOn ?_
        refine Wp.seqI ?_
        refine Wp.regI I0.mono ?_
        refine GL.move I0.mono (by conv => lhs; whnf) ?_
        refine GL.un I0.mono rfl ?_
        refine GL.doneF ?_
        refine goOn ?_
        refine Wp.condI rfl (fun h55 => ?_) (fun h55 => ?_)
        ·skip
         refine Wp.seqI ?_
         refine Wp.regI I0.mono ?_
         refine GL.assign I0.mono (by conv => lhs; whnf) ?_
         refine GL.doneF ?_
         refine goOn ?_
         refine Wp.retI ?_
         refine blockX.ret ?_
         refine thenX.ret ?_
         refine thenX.ret ?_
         refine blockX.ret ?_
         refine thenX.ret ?_
         refine RetX.ret ?_
         refine ⟨_, _, _, _, .cons (.tmp rfl) .nil, .frz (.pure rfl), List.nodup_nil, by simp, ?_⟩
         show LV.int _ _ = LV.int _ _
         congr 1
         unfold auditC
         first
         | (rw [if_neg (show ¬ checkB i = true by rw [hck]; simp), if_pos hck]; done)
         | (rw [if_neg (show ¬ checkB i = false by rw [hck]; simp), if_pos (show (lengthsB i p && (holdersB p.lock && holdersB p.ice)) = false by rw [nf h21]; rfl)]; done)
         | (rw [if_neg (show ¬ checkB i = false by rw [hck]; simp), if_pos (show (lengthsB i p && (holdersB p.lock && holdersB p.ice)) = false by rw [nf h27, Bool.false_and, Bool.and_false])]; done)
         | (rw [if_neg (show ¬ checkB i = false by rw [hck]; simp), if_pos (show (lengthsB i p && (holdersB p.lock && holdersB p.ice)) = false by rw [nf h16, Bool.and_false, Bool.and_false])]; done)
         | (rw [if_neg (show ¬ checkB i = false by rw [hck]; simp), if_neg (show ¬ (lengthsB i p && (holdersB p.lock && holdersB p.ice)) = false by rw [nt h21, nt h27, nt h16]; simp), if_pos (nf h33)]; done)
         | (rw [if_neg (show ¬ checkB i = false by rw [hck]; simp), if_neg (show ¬ (lengthsB i p && (holdersB p.lock && holdersB p.ice)) = false by rw [nt h21, nt h27, nt h16]; simp), if_neg (show ¬ onceA i.stops.length p.routes = false by rw [nt h33]; simp), if_pos (driven_no (k := k) (by omega) (nf h55))]; done)
         | (rw [if_neg (show ¬ checkB i = false by rw [hck]; simp), if_neg (show ¬ (lengthsB i p && (holdersB p.lock && holdersB p.ice)) = false by rw [nt h21, nt h27, nt h16]; simp), if_neg (show ¬ onceA i.stops.length p.routes = false by rw [nt h33]; simp), if_neg (show ¬ drivenB i p.routes = false by rw [driven_yes fun j hj => hD j (by omega)]; simp)]; done)
        
        ·skip
         refine Wp.skipI ?_
         refine blockX.normal ?_
         refine goOn ?_
         refine Wp.regI I0.mono ?_
         refine GL.addR I0.mono rfl rfl (by omega) ?_
         refine GL.move I0.mono (by conv => lhs; whnf) ?_
         refine GL.doneF ?_
         refine ⟨k + 1, (by dsimp only; omega), _, (LessS.weak (LessS.upd (LessS.upd (LessS.upd (LessS.upd (LessS.nil _) rfl) rfl) rfl) rfl) _), ⟨by omega, fun j h => by
               by_cases hj : j = k
               · subst hj; exact nt h55
               · exact hD j (by omega)⟩, _, (congrArg (St.mk _) (effM_eq (Has.cons rfl Has.nil)).symm)⟩
       ·replace h43 := of_decide_eq_false h43
        refine Wp.exitI ?_
        refine thenX.exit ?_
        refine thenX.exit ?_
        refine blockX.out ?_
        refine goOn ?_
        refine Wp.seqI ?_
        refine Wp.regI I0.mono ?_
        refine GL.assign I0.mono (by conv => lhs; whnf) ?_
        refine GL.doneF ?_
        refine goOn ?_
        refine Wp.retI ?_
        refine RetX.ret ?_
        refine ⟨_, _, _, _, .cons (.tmp rfl) .nil, .frz (.pure rfl), List.nodup_nil, by simp, ?_⟩
        show LV.int _ _ = LV.int _ _
        congr 1
        unfold auditC
        first
        | (rw [if_neg (show ¬ checkB i = true by rw [hck]; simp), if_pos hck]; done)
        | (rw [if_neg (show ¬ checkB i = false by rw [hck]; simp), if_pos (show (lengthsB i p && (holdersB p.lock && holdersB p.ice)) = false by rw [nf h21]; rfl)]; done)
        | (rw [if_neg (show ¬ checkB i = false by rw [hck]; simp), if_pos (show (lengthsB i p && (holdersB p.lock && holdersB p.ice)) = false by rw [nf h27, Bool.false_and, Bool.and_false])]; done)
        | (rw [if_neg (show ¬ checkB i = false by rw [hck]; simp), if_pos (show (lengthsB i p && (holdersB p.lock && holdersB p.ice)) = false by rw [nf h16, Bool.and_false, Bool.and_false])]; done)
        | (rw [if_neg (show ¬ checkB i = false by rw [hck]; simp), if_neg (show ¬ (lengthsB i p && (holdersB p.lock && holdersB p.ice)) = false by rw [nt h21, nt h27, nt h16]; simp), if_pos (nf h33)]; done)
        | (rw [if_neg (show ¬ checkB i = false by rw [hck]; simp), if_neg (show ¬ (lengthsB i p && (holdersB p.lock && holdersB p.ice)) = false by rw [nt h21, nt h27, nt h16]; simp), if_neg (show ¬ onceA i.stops.length p.routes = false by rw [nt h33]; simp), if_pos (driven_no (k := k) (by omega) (nf h55))]; done)
        | (rw [if_neg (show ¬ checkB i = false by rw [hck]; simp), if_neg (show ¬ (lengthsB i p && (holdersB p.lock && holdersB p.ice)) = false by rw [nt h21, nt h27, nt h16]; simp), if_neg (show ¬ onceA i.stops.length p.routes = false by rw [nt h33]; simp), if_neg (show ¬ drivenB i p.routes = false by rw [driven_yes fun j hj => hD j (by omega)]; simp)]; done)
       

theorem iceBad_eq (a b : Plan) (c : Nat) : iceBad a b c = ((a.ice.getD c default != -1) && (decide ((c : Int) < (a.routes.length : Int)) && (decide ((c : Int) ≥ (b.routes.length : Int)) || !decide (a.routes.getD c default = b.routes.getD c default)))) := by
  unfold iceBad
  rw [show decide (c < a.routes.length) = decide ((c : Int) < (a.routes.length : Int)) from decide_eq_decide.2 (by omega), show decide (c ≥ b.routes.length) = decide ((c : Int) ≥ (b.routes.length : Int)) from decide_eq_decide.2 (by omega)]
  congr 1
  · rw [decide_not]; rfl
  · rw [decide_not]
theorem lockBad_eq (a b : Plan) (who : Int) (s : Nat) : lockBad a b who s = (!(((s : Int) == 0) || ((a.lock.getD s default == -1) || (a.lock.getD s default == who))) && (decide ((s : Int) ≥ (b.lock.length : Int)) || ((b.lock.getD s default != a.lock.getD s default) || !(((whereR a.routes s).1 == (whereR b.routes s).1) && ((whereR a.routes s).2 == (whereR b.routes s).2 && true))))) := by
  unfold lockBad
  rw [show decide (s = 0) = ((s : Int) == 0) from by rw [Bool.eq_iff_iff]; simp, show decide (s ≥ b.lock.length) = decide ((s : Int) ≥ (b.lock.length : Int)) from decide_eq_decide.2 (by omega)]
  congr 1
  congr 1
  congr 1
  · rw [decide_not]; rfl
  · rw [Bool.eq_iff_iff]
    simp [Prod.ext_iff]

set_option maxRecDepth 100000 in
set_option maxHeartbeats 4000000 in
theorem kept_ok (a b : Plan) (ha : OkP a) (hb : OkP b) (who : Int) : CallsV Try.prog 33 [.agg (kp a), .agg (kp b), .int .i64 who] (.bool (keptB a b who)) := by
  refine CallsR.intro (I0.sound _) mix Try.func33 rfl rfl (by simp [Try.f33]) (by kernel_rfl) (nb := 0) ?_
  unfold Try.f33
  refine Wp.seqI ?_
  have ⟨a1, a2, a3, a4, a5, a6, a7⟩ := ha
  have ⟨b1, b2, b3, b4, b5, b6, b7⟩ := hb
  refine Wp.regI I0.mono ?_
  refine GL.box I0.mono (by conv => lhs; whnf) rfl (n := 7) rfl rfl ?_
  intro g3
  refine GL.box I0.mono (by conv => lhs; whnf) rfl (n := 7) rfl rfl ?_
  intro g4
  refine GL.assign I0.mono (by conv => lhs; whnf) ?_
  refine GL.doneF ?_
  refine goOn ?_
  refine Wp.seqI ?_
  refine Wp.seqI ?_
  refine Wp.regI I0.mono ?_
  refine GL.fieldAddr I0.mono (o := 2) rfl rfl rfl rfl (by conv => lhs; whnf) ?_
  refine GL.load I0.mono rfl rfl rfl rfl (by simp) rfl rfl ?_
  refine GL.lenF I0.mono rfl rfl (em_len _ _) ?_
  refine GL.move I0.mono (by conv => lhs; whnf) ?_
  refine GL.doneF ?_
  refine goOn ?_
  refine Wp.blockI ?_
  refine Wp.loopI I0.mono (α := Nat) (fun i st => (i ≤ a.ice.length ∧ ∀ j, j < i → iceBad a b j = false) ∧ ∃ m0, st = ⟨(updS (updS (updS (updS (updS (updS (fun _ => LV.undef) 2 (.int .i64 who)) 3 (.ref 192 g3 0 0)) 4 (.ref 256 g4 0 0)) 12 (.sl (em ni a.ice))) 13 (.int .i64 (a.ice.length : Int))) 14 (.int .i64 (i : Int))), effM m0 [(192, ⟨g3, false, .var, 7, [kp a]⟩), (256, ⟨g4, false, .var, 7, [kp b]⟩)]⟩) (fun i => a.ice.length - i) 0 ⟨_, (LessS.weak (LessS.upd (LessS.upd (LessS.upd (LessS.upd (LessS.upd (LessS.upd (LessS.nil _) rfl) rfl) rfl) rfl) rfl) rfl) _), ⟨Nat.zero_le _, fun j h => by omega⟩, _, (congrArg (St.mk _) (effM_eq (Has.cons rfl (Has.cons rfl Has.nil))).symm)⟩ ?_
  rintro i _ ⟨⟨hi, hA⟩, m0, rfl⟩
  refine Wp.seqI ?_
  refine Wp.regI I0.mono ?_
  refine GL.bin I0.mono rfl ?_
  refine GL.doneF ?_
  refine goOn ?_
  refine Wp.seqI ?_
  refine Wp.condI rfl (fun h15 => ?_) (fun h15 => ?_)
  ·replace h15 := of_decide_eq_true h15
   refine Wp.skipI ?_
   refine goOn ?_
   refine Wp.seqI ?_
   refine Wp.blockI ?_
   refine Wp.seqI ?_
   refine Wp.regI I0.mono ?_
   refine GL.move I0.mono (by conv => lhs; whnf) ?_
   refine GL.indexAddrF I0.mono (sz := 1) rfl rfl rfl rfl (by omega) (by (rw [em_len]; omega)) (by intro e he; obtain ⟨a, -, rfl⟩ := List.mem_map.1 he; rfl) (by with_reducible exact Int.toNat_natCast _) ?_
   refine GL.loadF I0.mono rfl rfl (em_get (by omega)) rfl ?_
   refine GL.assign I0.mono (by conv => lhs; whnf) ?_
   refine GL.assign I0.mono (by conv => lhs; whnf) ?_
   refine GL.doneF ?_
   refine goOn ?_
   refine Wp.seqI ?_
   refine Wp.regD ?_
   refine GL.move I0.mono (by conv => lhs; whnf) ?_
   refine GL.bin I0.mono rfl ?_
   refine GL.move I0.mono (by conv => lhs; whnf) ?_
   refine GL.splitAt 21 rfl (fun h21 => ?_) (fun h21 => ?_)
   ·rw [h21]
    replace h21 := bne_true h21
    refine GL.guardT rfl ?_
    refine GL.move I0.mono (by conv => lhs; whnf) ?_
    refine GL.guardT rfl ?_
    refine GL.fieldAddr I0.mono (o := 0) rfl rfl rfl rfl (by conv => lhs; whnf) ?_
    refine GL.guardT rfl ?_
    refine GL.load I0.mono rfl rfl rfl rfl (by simp) rfl rfl ?_
    refine GL.guardT rfl ?_
    refine GL.lenF I0.mono rfl rfl (em_len _ _) ?_
    refine GL.guardT rfl ?_
    refine GL.bin I0.mono rfl ?_
    refine GL.pick I0.mono rfl (by conv => lhs; whnf) ?_
    refine GL.move I0.mono (by conv => lhs; whnf) ?_
    refine GL.splitAt 28 rfl (fun h28 => ?_) (fun h28 => ?_)
    ·rw [h28]
     replace h28 := of_decide_eq_true h28
     refine GL.guardT rfl ?_
     refine GL.move I0.mono (by conv => lhs; whnf) ?_
     refine GL.guardT rfl ?_
     refine GL.fieldAddr I0.mono (o := 0) rfl rfl rfl rfl (by conv => lhs; whnf) ?_
     refine GL.guardT rfl ?_
     refine GL.load I0.mono rfl rfl rfl rfl (by simp) rfl rfl ?_
     refine GL.guardT rfl ?_
     refine GL.lenF I0.mono rfl rfl (em_len _ _) ?_
     refine GL.guardT rfl ?_
     refine GL.bin I0.mono rfl ?_
     refine GL.guardT rfl ?_
     refine GL.move I0.mono (by conv => lhs; whnf) ?_
     refine GL.splitAt 34 rfl (fun h34 => ?_) (fun h34 => ?_)
     ·rw [h34]
      replace h34 := of_decide_eq_true h34
      refine GL.guardF rfl ?_
      refine GL.guardF rfl ?_
      refine GL.guardF rfl ?_
      refine GL.guardF rfl ?_
      refine GL.guardF rfl ?_
      refine GL.guardF rfl ?_
      refine GL.guardF rfl ?_
      refine GL.guardF rfl ?_
      refine GL.guardF rfl ?_
      refine GL.guardF rfl ?_
      refine GL.guardF rfl ?_
      refine GL.guardF rfl ?_
      refine GL.guardT rfl ?_
      refine GL.pick I0.mono rfl (by conv => lhs; whnf) ?_
      refine GL.pick I0.mono rfl (by conv => lhs; whnf) ?_
      refine GL.doneT (by kernel_rfl) ?_
      refine goOn ?_
      refine Wp.condT rfl ?_
      refine Wp.seqI ?_
      refine Wp.regI I0.mono ?_
      refine GL.assign I0.mono (by conv => lhs; whnf) ?_
      refine GL.doneF ?_
      refine goOn ?_
      refine Wp.retI ?_
      refine blockX.ret ?_
      refine thenX.ret ?_
      refine thenX.ret ?_
      refine blockX.ret ?_
      refine thenX.ret ?_
      refine RetX.ret ?_
      refine ⟨_, _, _, _, .cons (.tmp rfl) .nil, .frz (.pure rfl), List.nodup_nil, by simp, ?_⟩
      show LV.bool _ = LV.bool _
      congr 1
      symm
      first
      | exact kept_ice (c := i) (by omega) (by rw [iceBad_eq]; simp_all)
      | exact kept_lock (s := i) (by omega) (by rw [lockBad_eq]; simp_all)
      | exact kept_yes (fun c hc => hA c (by omega)) fun s hs => hB s (by omega)
     
     ·rw [h34]
      replace h34 := of_decide_eq_false h34
      refine GL.guardT rfl ?_
      refine GL.fieldAddr I0.mono (o := 0) rfl rfl rfl rfl (by conv => lhs; whnf) ?_
      refine GL.guardT rfl ?_
      refine GL.load I0.mono rfl rfl rfl rfl (by simp) rfl rfl ?_
      refine GL.guardT rfl ?_
      refine GL.move I0.mono (by conv => lhs; whnf) ?_
      refine GL.guardT rfl ?_
      refine GL.indexAddrF I0.mono (sz := 1) (j := i) rfl rfl rfl rfl (by omega) (by rw [em_len]; omega) (by intro e he; obtain ⟨a, -, rfl⟩ := List.mem_map.1 he; rfl) (by omega) ?_
      refine GL.guardT rfl ?_
      refine GL.loadF I0.mono rfl rfl (em_get (by omega)) rfl ?_
      refine GL.guardT rfl ?_
      refine GL.fieldAddr I0.mono (o := 0) rfl rfl rfl rfl (by conv => lhs; whnf) ?_
      refine GL.guardT rfl ?_
      refine GL.load I0.mono rfl rfl rfl rfl (by simp) rfl rfl ?_
      refine GL.guardT rfl ?_
      refine GL.move I0.mono (by conv => lhs; whnf) ?_
      refine GL.guardT rfl ?_
      refine GL.indexAddrF I0.mono (sz := 1) (j := i) rfl rfl rfl rfl (by omega) (by rw [em_len]; omega) (by intro e he; obtain ⟨a, -, rfl⟩ := List.mem_map.1 he; rfl) (by omega) ?_
      refine GL.guardT rfl ?_
      refine GL.loadF I0.mono rfl rfl (em_get (by omega)) rfl ?_
      refine GL.guardT rfl ?_
      refine GL.call0 I0.mono rfl (Frz.aggc (Frz.pure rfl) (Frz.aggc (Frz.pure rfl) Frz.aggn)) (equal_ok _ _ (by have := a2 _ (getD_mem (l := a.routes) (j := i) (by omega)); unfold Short; omega) (by have := b2 _ (getD_mem (l := b.routes) (j := i) (by omega)); omega)) rfl rfl (fun _ => rfl) ?_
      refine GL.guardT rfl ?_
      refine GL.un I0.mono rfl ?_
      refine GL.guardT rfl ?_
      refine GL.pick I0.mono rfl (by conv => lhs; whnf) ?_
      refine GL.pick I0.mono rfl (by conv => lhs; whnf) ?_
      refine GL.doneT (by kernel_rfl) ?_
      refine goOn ?_
      refine Wp.condI rfl (fun h48 => ?_) (fun h48 => ?_)
      ·skip
       refine Wp.seqI ?_
       refine Wp.regI I0.mono ?_
       refine GL.assign I0.mono (by conv => lhs; whnf) ?_
       refine GL.doneF ?_
       refine goOn ?_
       refine Wp.retI ?_
       refine blockX.ret ?_
       refine thenX.ret ?_
       refine thenX.ret ?_
       refine blockX.ret ?_
       refine thenX.ret ?_
       refine RetX.ret ?_
       refine ⟨_, _, _, _, .cons (.tmp rfl) .nil, .frz (.pure rfl), List.nodup_nil, by simp, ?_⟩
       show LV.bool _ = LV.bool _
       congr 1
       symm
       first
       | exact kept_ice (c := i) (by omega) (by rw [iceBad_eq]; simp_all)
       | exact kept_lock (s := i) (by omega) (by rw [lockBad_eq]; simp_all)
       | exact kept_yes (fun c hc => hA c (by omega)) fun s hs => hB s (by omega)
      
      ·skip
       refine Wp.skipI ?_
       refine blockX.normal ?_
       refine goOn ?_
       refine Wp.regI I0.mono ?_
       refine GL.addR I0.mono rfl rfl (by omega) ?_
       refine GL.move I0.mono (by conv => lhs; whnf) ?_
       refine GL.doneF ?_
       refine ⟨i + 1, (by dsimp only; omega), _, (LessS.weak (LessS.upd (LessS.upd (LessS.upd (LessS.upd (LessS.upd (LessS.upd (LessS.nil _) rfl) rfl) rfl) rfl) rfl) rfl) _), ⟨by omega, fun j h => by
             by_cases hj : j = i
             · subst hj; rw [iceBad_eq]; first | (simp_all; done) | (simp_all; intros; omega)
             · exact hA j (by omega)⟩, _, (congrArg (St.mk _) (effM_eq (Has.cons rfl (Has.cons rfl Has.nil))).symm)⟩
    ·rw [h28]
     replace h28 := of_decide_eq_false h28
     refine GL.guardF rfl ?_
     refine GL.guardF rfl ?_
     refine GL.guardF rfl ?_
     refine GL.guardF rfl ?_
     refine GL.guardF rfl ?_
     refine GL.guardF rfl ?_
     refine GL.guardF rfl ?_
     refine GL.guardF rfl ?_
     refine GL.guardF rfl ?_
     refine GL.guardF rfl ?_
     refine GL.guardF rfl ?_
     refine GL.guardF rfl ?_
     refine GL.guardF rfl ?_
     refine GL.guardF rfl ?_
     refine GL.guardF rfl ?_
     refine GL.guardF rfl ?_
     refine GL.guardF rfl ?_
     refine GL.guardF rfl ?_
     refine GL.guardF rfl ?_
     refine GL.pick I0.mono rfl (by conv => lhs; whnf) ?_
     refine GL.doneT (by kernel_rfl) ?_
     refine goOn ?_
     refine Wp.condF rfl ?_
     refine Wp.skipI ?_
     refine blockX.normal ?_
     refine goOn ?_
     refine Wp.regI I0.mono ?_
     refine GL.addR I0.mono rfl rfl (by omega) ?_
     refine GL.move I0.mono (by conv => lhs; whnf) ?_
     refine GL.doneF ?_
     refine ⟨i + 1, (by dsimp only; omega), _, (LessS.weak (LessS.upd (LessS.upd (LessS.upd (LessS.upd (LessS.upd (LessS.upd (LessS.nil _) rfl) rfl) rfl) rfl) rfl) rfl) _), ⟨by omega, fun j h => by
           by_cases hj : j = i
           · subst hj; rw [iceBad_eq]; first | (simp_all; done) | (simp_all; intros; omega)
           · exact hA j (by omega)⟩, _, (congrArg (St.mk _) (effM_eq (Has.cons rfl (Has.cons rfl Has.nil))).symm)⟩
   ·rw [h21]
    replace h21 := bne_false h21
    refine GL.guardF rfl ?_
    refine GL.guardF rfl ?_
    refine GL.guardF rfl ?_
    refine GL.guardF rfl ?_
    refine GL.guardF rfl ?_
    refine GL.pick I0.mono rfl (by conv => lhs; whnf) ?_
    refine GL.move I0.mono (by conv => lhs; whnf) ?_
    refine GL.guardF rfl ?_
    refine GL.guardF rfl ?_
    refine GL.guardF rfl ?_
    refine GL.guardF rfl ?_
    refine GL.guardF rfl ?_
    refine GL.guardF rfl ?_
    refine GL.guardF rfl ?_
    refine GL.guardF rfl ?_
    refine GL.guardF rfl ?_
    refine GL.guardF rfl ?_
    refine GL.guardF rfl ?_
    refine GL.guardF rfl ?_
    refine GL.guardF rfl ?_
    refine GL.guardF rfl ?_
    refine GL.guardF rfl ?_
    refine GL.guardF rfl ?_
    refine GL.guardF rfl ?_
    refine GL.guardF rfl ?_
    refine GL.guardF rfl ?_
    refine GL.pick I0.mono rfl (by conv => lhs; whnf) ?_
    refine GL.doneT (by kernel_rfl) ?_
    refine goOn ?_
    refine Wp.condF rfl ?_
    refine Wp.skipI ?_
    refine blockX.normal ?_
    refine goOn ?_
    refine Wp.regI I0.mono ?_
    refine GL.addR I0.mono rfl rfl (by omega) ?_
    refine GL.move I0.mono (by conv => lhs; whnf) ?_
    refine GL.doneF ?_
    refine ⟨i + 1, (by dsimp only; omega), _, (LessS.weak (LessS.upd (LessS.upd (LessS.upd (LessS.upd (LessS.upd (LessS.upd (LessS.nil _) rfl) rfl) rfl) rfl) rfl) rfl) _), ⟨by omega, fun j h => by
          by_cases hj : j = i
          · subst hj; rw [iceBad_eq]; first | (simp_all; done) | (simp_all; intros; omega)
          · exact hA j (by omega)⟩, _, (congrArg (St.mk _) (effM_eq (Has.cons rfl (Has.cons rfl Has.nil))).symm)⟩
  ·replace h15 := of_decide_eq_false h15
   refine Wp.exitI ?_
   refine thenX.exit ?_
   refine thenX.exit ?_
   refine blockX.out ?_
   refine goOn ?_
   refine Wp.seqI ?_
   refine Wp.seqI ?_
   refine Wp.regI I0.mono ?_
   refine GL.fieldAddr I0.mono (o := 1) rfl rfl rfl rfl (by conv => lhs; whnf) ?_
   refine GL.load I0.mono rfl rfl rfl rfl (by simp) rfl rfl ?_
   refine GL.lenF I0.mono rfl rfl (em_len _ _) ?_
   refine GL.move I0.mono (by conv => lhs; whnf) ?_
   refine GL.doneF ?_
   refine goOn ?_
   refine Wp.blockI ?_
   refine Wp.loopI I0.mono (α := Nat) (fun i st => (i ≤ a.lock.length ∧ ∀ j, j < i → lockBad a b who j = false) ∧ ∃ m0, st = ⟨(updS (updS (updS (updS (updS (updS (fun _ => LV.undef) 2 (.int .i64 who)) 3 (.ref 192 g3 0 0)) 4 (.ref 256 g4 0 0)) 51 (.sl (em ni a.lock))) 52 (.int .i64 (a.lock.length : Int))) 53 (.int .i64 (i : Int))), effM m0 [(192, ⟨g3, false, .var, 7, [kp a]⟩), (256, ⟨g4, false, .var, 7, [kp b]⟩)]⟩) (fun i => a.lock.length - i) 0 ⟨_, (LessS.weak (LessS.upd (LessS.upd (LessS.upd (LessS.upd (LessS.upd (LessS.upd (LessS.nil _) rfl) rfl) rfl) rfl) rfl) rfl) _), ⟨Nat.zero_le _, fun j h => by omega⟩, _, (congrArg (St.mk _) (effM_eq (Has.cons rfl (Has.cons rfl Has.nil))).symm)⟩ ?_
   rintro i _ ⟨⟨hi2, hB⟩, m0, rfl⟩
   refine Wp.seqI ?_
   refine Wp.regI I0.mono ?_
   refine GL.bin I0.mono rfl ?_
   refine GL.doneF ?_
   refine goOn ?_
   refine Wp.seqI ?_
   refine Wp.condI rfl (fun h54 => ?_) (fun h54 => ?_)
   ·replace h54 := of_decide_eq_true h54
    refine Wp.skipI ?_
    refine goOn ?_
    refine Wp.seqI ?_
    refine Wp.blockI ?_
    refine Wp.seqI ?_
    refine Wp.regI I0.mono ?_
    refine GL.move I0.mono (by conv => lhs; whnf) ?_
    refine GL.indexAddrF I0.mono (sz := 1) rfl rfl rfl rfl (by omega) (by (rw [em_len]; omega)) (by intro e he; obtain ⟨a, -, rfl⟩ := List.mem_map.1 he; rfl) (by with_reducible exact Int.toNat_natCast _) ?_
    refine GL.loadF I0.mono rfl rfl (em_get (by omega)) rfl ?_
    refine GL.assign I0.mono (by conv => lhs; whnf) ?_
    refine GL.assign I0.mono (by conv => lhs; whnf) ?_
    refine GL.doneF ?_
    refine goOn ?_
    refine Wp.seqI ?_
    refine Wp.seqI ?_
    refine Wp.regI I0.mono ?_
    refine GL.move I0.mono (by conv => lhs; whnf) ?_
    refine GL.bin I0.mono rfl ?_
    refine GL.move I0.mono (by conv => lhs; whnf) ?_
    refine GL.splitAt 60 rfl (fun h60 => ?_) (fun h60 => ?_)
    ·rw [h60]
     replace h60 := of_decide_eq_true h60
     refine GL.guardF rfl ?_
     refine GL.guardF rfl ?_
     refine GL.pick I0.mono rfl (by conv => lhs; whnf) ?_
     refine GL.move I0.mono (by conv => lhs; whnf) ?_
     refine GL.guardF rfl ?_
     refine GL.guardF rfl ?_
     refine GL.guardF rfl ?_
     refine GL.pick I0.mono rfl (by conv => lhs; whnf) ?_
     refine GL.doneF ?_
     refine goOn ?_
     refine Wp.condT rfl ?_
     refine Wp.exitI ?_
     refine thenX.exit ?_
     refine blockX.out ?_
     refine goOn ?_
     refine Wp.regI I0.mono ?_
     refine GL.addR I0.mono rfl rfl (by omega) ?_
     refine GL.move I0.mono (by conv => lhs; whnf) ?_
     refine GL.doneF ?_
     refine ⟨i + 1, (by dsimp only; omega), _, (LessS.weak (LessS.upd (LessS.upd (LessS.upd (LessS.upd (LessS.upd (LessS.upd (LessS.nil _) rfl) rfl) rfl) rfl) rfl) rfl) _), ⟨by omega, fun j h => by
           by_cases hj : j = i
           · subst hj; rw [lockBad_eq]; first | (simp_all; done) | (simp_all; intros; omega)
           · exact hB j (by omega)⟩, _, (congrArg (St.mk _) (effM_eq (Has.cons rfl (Has.cons rfl Has.nil))).symm)⟩
    ·rw [h60]
     replace h60 := of_decide_eq_false h60
     refine GL.guardT rfl ?_
     refine GL.move I0.mono (by conv => lhs; whnf) ?_
     refine GL.guardT rfl ?_
     refine GL.bin I0.mono rfl ?_
     refine GL.pick I0.mono rfl (by conv => lhs; whnf) ?_
     refine GL.move I0.mono (by conv => lhs; whnf) ?_
     refine GL.splitAt 64 rfl (fun h64 => ?_) (fun h64 => ?_)
     ·rw [h64]
      replace h64 := of_decide_eq_true h64
      refine GL.guardF rfl ?_
      refine GL.guardF rfl ?_
      refine GL.guardF rfl ?_
      refine GL.pick I0.mono rfl (by conv => lhs; whnf) ?_
      refine GL.doneF ?_
      refine goOn ?_
      refine Wp.condT rfl ?_
      refine Wp.exitI ?_
      refine thenX.exit ?_
      refine blockX.out ?_
      refine goOn ?_
      refine Wp.regI I0.mono ?_
      refine GL.addR I0.mono rfl rfl (by omega) ?_
      refine GL.move I0.mono (by conv => lhs; whnf) ?_
      refine GL.doneF ?_
      refine ⟨i + 1, (by dsimp only; omega), _, (LessS.weak (LessS.upd (LessS.upd (LessS.upd (LessS.upd (LessS.upd (LessS.upd (LessS.nil _) rfl) rfl) rfl) rfl) rfl) rfl) _), ⟨by omega, fun j h => by
            by_cases hj : j = i
            · subst hj; rw [lockBad_eq]; first | (simp_all; done) | (simp_all; intros; omega)
            · exact hB j (by omega)⟩, _, (congrArg (St.mk _) (effM_eq (Has.cons rfl (Has.cons rfl Has.nil))).symm)⟩
     ·rw [h64]
      replace h64 := of_decide_eq_false h64
      refine GL.guardT rfl ?_
      refine GL.move I0.mono (by conv => lhs; whnf) ?_
      refine GL.guardT rfl ?_
      refine GL.move I0.mono (by conv => lhs; whnf) ?_
      refine GL.guardT rfl ?_
      refine GL.bin I0.mono rfl ?_
      refine GL.pick I0.mono rfl (by conv => lhs; whnf) ?_
      refine GL.doneF ?_
      refine goOn ?_
      refine Wp.condI rfl (fun h68 => ?_) (fun h68 => ?_)
      ·replace h68 := of_decide_eq_true h68
       refine Wp.exitI ?_
       refine thenX.exit ?_
       refine blockX.out ?_
       refine goOn ?_
       refine Wp.regI I0.mono ?_
       refine GL.addR I0.mono rfl rfl (by omega) ?_
       refine GL.move I0.mono (by conv => lhs; whnf) ?_
       refine GL.doneF ?_
       refine ⟨i + 1, (by dsimp only; omega), _, (LessS.weak (LessS.upd (LessS.upd (LessS.upd (LessS.upd (LessS.upd (LessS.upd (LessS.nil _) rfl) rfl) rfl) rfl) rfl) rfl) _), ⟨by omega, fun j h => by
             by_cases hj : j = i
             · subst hj; rw [lockBad_eq]; first | (simp_all; done) | (simp_all; intros; omega)
             · exact hB j (by omega)⟩, _, (congrArg (St.mk _) (effM_eq (Has.cons rfl (Has.cons rfl Has.nil))).symm)⟩
      ·replace h68 := of_decide_eq_false h68
       refine Wp.skipI ?_
       refine goOn ?_
       refine Wp.seqI ?_
       refine Wp.regD ?_
       refine GL.move I0.mono (by conv => lhs; whnf) ?_
       refine GL.fieldAddr I0.mono (o := 1) rfl rfl rfl rfl (by conv => lhs; whnf) ?_
       refine GL.load I0.mono rfl rfl rfl rfl (by simp) rfl rfl ?_
       refine GL.lenF I0.mono rfl rfl (em_len _ _) ?_
       refine GL.bin I0.mono rfl ?_
       refine GL.move I0.mono (by conv => lhs; whnf) ?_
       refine GL.splitAt 74 rfl (fun h74 => ?_) (fun h74 => ?_)
       ·rw [h74]
        replace h74 := of_decide_eq_true h74
        refine GL.guardF rfl ?_
        refine GL.guardF rfl ?_
        refine GL.guardF rfl ?_
        refine GL.guardF rfl ?_
        refine GL.guardF rfl ?_
        refine GL.guardF rfl ?_
        refine GL.guardF rfl ?_
        refine GL.pick I0.mono rfl (by conv => lhs; whnf) ?_
        refine GL.move I0.mono (by conv => lhs; whnf) ?_
        refine GL.guardF rfl ?_
        refine GL.guardF rfl ?_
        refine GL.guardF rfl ?_
        refine GL.guardF rfl ?_
        refine GL.guardF rfl ?_
        refine GL.guardF rfl ?_
        refine GL.guardF rfl ?_
        refine GL.pick I0.mono rfl (by conv => lhs; whnf) ?_
        refine GL.doneT (by kernel_rfl) ?_
        refine goOn ?_
        refine Wp.condT rfl ?_
        refine Wp.seqI ?_
        refine Wp.regI I0.mono ?_
        refine GL.assign I0.mono (by conv => lhs; whnf) ?_
        refine GL.doneF ?_
        refine goOn ?_
        refine Wp.retI ?_
        refine blockX.ret ?_
        refine thenX.ret ?_
        refine thenX.ret ?_
        refine blockX.ret ?_
        refine thenX.ret ?_
        refine RetX.ret ?_
        refine ⟨_, _, _, _, .cons (.tmp rfl) .nil, .frz (.pure rfl), List.nodup_nil, by simp, ?_⟩
        show LV.bool _ = LV.bool _
        congr 1
        symm
        first
        | exact kept_ice (c := i) (by omega) (by rw [iceBad_eq]; simp_all)
        | exact kept_lock (s := i) (by omega) (by rw [lockBad_eq]; simp_all)
        | exact kept_yes (fun c hc => hA c (by omega)) fun s hs => hB s (by omega)
       
       ·rw [h74]
        replace h74 := of_decide_eq_false h74
        refine GL.guardT rfl ?_
        refine GL.fieldAddr I0.mono (o := 1) rfl rfl rfl rfl (by conv => lhs; whnf) ?_
        refine GL.guardT rfl ?_
        refine GL.load I0.mono rfl rfl rfl rfl (by simp) rfl rfl ?_
        refine GL.guardT rfl ?_
        refine GL.move I0.mono (by conv => lhs; whnf) ?_
        refine GL.guardT rfl ?_
        refine GL.indexAddrF I0.mono (sz := 1) (j := i) rfl rfl rfl rfl (by omega) (by rw [em_len]; omega) (by intro e he; obtain ⟨a, -, rfl⟩ := List.mem_map.1 he; rfl) (by omega) ?_
        refine GL.guardT rfl ?_
        refine GL.loadF I0.mono rfl rfl (em_get (by omega)) rfl ?_
        refine GL.guardT rfl ?_
        refine GL.move I0.mono (by conv => lhs; whnf) ?_
        refine GL.guardT rfl ?_
        refine GL.bin I0.mono rfl ?_
        refine GL.pick I0.mono rfl (by conv => lhs; whnf) ?_
        refine GL.move I0.mono (by conv => lhs; whnf) ?_
        refine GL.splitAt 83 rfl (fun h83 => ?_) (fun h83 => ?_)
        ·rw [h83]
         replace h83 := bne_true h83
         refine GL.guardF rfl ?_
         refine GL.guardF rfl ?_
         refine GL.guardF rfl ?_
         refine GL.guardF rfl ?_
         refine GL.guardF rfl ?_
         refine GL.guardF rfl ?_
         refine GL.guardF rfl ?_
         refine GL.pick I0.mono rfl (by conv => lhs; whnf) ?_
         refine GL.doneT (by kernel_rfl) ?_
         refine goOn ?_
         refine Wp.condT rfl ?_
         refine Wp.seqI ?_
         refine Wp.regI I0.mono ?_
         refine GL.assign I0.mono (by conv => lhs; whnf) ?_
         refine GL.doneF ?_
         refine goOn ?_
         refine Wp.retI ?_
         refine blockX.ret ?_
         refine thenX.ret ?_
         refine thenX.ret ?_
         refine blockX.ret ?_
         refine thenX.ret ?_
         refine RetX.ret ?_
         refine ⟨_, _, _, _, .cons (.tmp rfl) .nil, .frz (.pure rfl), List.nodup_nil, by simp, ?_⟩
         show LV.bool _ = LV.bool _
         congr 1
         symm
         first
         | exact kept_ice (c := i) (by omega) (by rw [iceBad_eq]; simp_all)
         | exact kept_lock (s := i) (by omega) (by rw [lockBad_eq]; simp_all)
         | exact kept_yes (fun c hc => hA c (by omega)) fun s hs => hB s (by omega)
        
        ·rw [h83]
         replace h83 := bne_false h83
         refine GL.guardT rfl ?_
         refine GL.loadW I0.mono (n := 7) rfl rfl rfl rfl (by simp) rfl rfl rfl ?_
         refine GL.guardT rfl ?_
         refine GL.move I0.mono (by conv => lhs; whnf) ?_
         refine GL.guardT rfl ?_
         refine GL.call0 I0.mono rfl (Frz.aggc (by exact Frz.pures rfl) (Frz.aggc (by exact Frz.pure rfl) (Frz.aggn))) (awhere_ok a ha _) rfl rfl (fun _ => rfl) ?_
         refine GL.guardT rfl ?_
         refine GL.loadW I0.mono (n := 7) rfl rfl rfl rfl (by simp) rfl rfl rfl ?_
         refine GL.guardT rfl ?_
         refine GL.move I0.mono (by conv => lhs; whnf) ?_
         refine GL.guardT rfl ?_
         refine GL.call0 I0.mono rfl (Frz.aggc (by exact Frz.pures rfl) (Frz.aggc (by exact Frz.pure rfl) (Frz.aggn))) (awhere_ok b hb _) rfl rfl (fun _ => rfl) ?_
         refine GL.guardT rfl ?_
         refine GL.neqA I0.mono rfl rfl (eqA2 _ _ _ _) ?_
         refine GL.pick I0.mono rfl (by conv => lhs; whnf) ?_
         refine GL.doneT (by kernel_rfl) ?_
         refine goOn ?_
         refine Wp.condI rfl (fun h91 => ?_) (fun h91 => ?_)
         ·skip
          refine Wp.seqI ?_
          refine Wp.regI I0.mono ?_
          refine GL.assign I0.mono (by conv => lhs; whnf) ?_
          refine GL.doneF ?_
          refine goOn ?_
          refine Wp.retI ?_
          refine blockX.ret ?_
          refine thenX.ret ?_
          refine thenX.ret ?_
          refine blockX.ret ?_
          refine thenX.ret ?_
          refine RetX.ret ?_
          refine ⟨_, _, _, _, .cons (.tmp rfl) .nil, .frz (.pure rfl), List.nodup_nil, by simp, ?_⟩
          show LV.bool _ = LV.bool _
          congr 1
          symm
          first
          | exact kept_ice (c := i) (by omega) (by rw [iceBad_eq]; simp_all)
          | exact kept_lock (s := i) (by omega) (by rw [lockBad_eq]; simp_all)
          | exact kept_yes (fun c hc => hA c (by omega)) fun s hs => hB s (by omega)
         
         ·skip
          refine Wp.skipI ?_
          refine blockX.normal ?_
          refine goOn ?_
          refine Wp.regI I0.mono ?_
          refine GL.addR I0.mono rfl rfl (by omega) ?_
          refine GL.move I0.mono (by conv => lhs; whnf) ?_
          refine GL.doneF ?_
          refine ⟨i + 1, (by dsimp only; omega), _, (LessS.weak (LessS.upd (LessS.upd (LessS.upd (LessS.upd (LessS.upd (LessS.upd (LessS.nil _) rfl) rfl) rfl) rfl) rfl) rfl) _), ⟨by omega, fun j h => by
                by_cases hj : j = i
                · subst hj; rw [lockBad_eq]; first | (simp_all; done) | (simp_all; intros; omega)
                · exact hB j (by omega)⟩, _, (congrArg (St.mk _) (effM_eq (Has.cons rfl (Has.cons rfl Has.nil))).symm)⟩
   ·replace h54 := of_decide_eq_false h54
    refine Wp.exitI ?_
    refine thenX.exit ?_
    refine thenX.exit ?_
    refine blockX.out ?_
    refine goOn ?_
    refine Wp.seqI ?_
    refine Wp.regI I0.mono ?_
    refine GL.assign I0.mono (by conv => lhs; whnf) ?_
    refine GL.doneF ?_
    refine goOn ?_
    refine Wp.retI ?_
    refine RetX.ret ?_
    refine ⟨_, _, _, _, .cons (.tmp rfl) .nil, .frz (.pure rfl), List.nodup_nil, by simp, ?_⟩
    show LV.bool _ = LV.bool _
    congr 1
    symm
    first
    | exact kept_ice (c := i) (by omega) (by rw [iceBad_eq]; simp_all)
    | exact kept_lock (s := i) (by omega) (by rw [lockBad_eq]; simp_all)
    | exact kept_yes (fun c hc => hA c (by omega)) fun s hs => hB s (by omega)
   

end Go.Proofs.Ytffnlhjdlhpmjaa
