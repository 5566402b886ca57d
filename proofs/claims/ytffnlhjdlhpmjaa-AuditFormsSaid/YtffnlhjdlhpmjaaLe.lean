/- Check of a problem, walked. -/
import Derived.Test.YtffnlhjdlhpmjaaProg
import Derived.Test.YtffnlhjdlhpmjaaLd
import Derived.KernelRfl
set_option linter.all false
namespace Go.Proofs.Ytffnlhjdlhpmjaa
open Go.Proofs Mv
theorem chk_yes {i : Inst} (h1 : between i.cars.length 1 3 = true) (h2 : i.stops.length ≤ 10) (h3 : i.cars.all carOk = true) (h4 : i.stops.all stopOk = true) (h5 : pairsGo i i.pairs [] = true) (h6 : travelOk i = true) : checkB i = true := by
  unfold checkB
  rw [h1, h3, h4, h5, h6, decide_eq_true h2]
  rfl
theorem chk_cars {i : Inst} (h : between i.cars.length 1 3 = false) : checkB i = false := by unfold checkB; simp [h]
theorem chk_many {i : Inst} (h : ¬ i.stops.length ≤ 10) : checkB i = false := by unfold checkB; simp [h]
theorem chk_car {i : Inst} (h : i.cars.all carOk = false) : checkB i = false := by unfold checkB; rw [h]; simp
theorem chk_stop {i : Inst} (h : i.stops.all stopOk = false) : checkB i = false := by unfold checkB; rw [h]; simp
theorem chk_pairs {i : Inst} (h : pairsGo i i.pairs [] = false) : checkB i = false := by unfold checkB; rw [h]; simp
theorem chk_trav {i : Inst} (h : travelOk i = false) : checkB i = false := by unfold checkB; rw [h]; simp
theorem trav_len {i : Inst} (h : ¬ i.travel.length = i.stops.length + 1) : travelOk i = false := by unfold travelOk; rw [decide_eq_false h]; rfl
theorem trav_rows {i : Inst} (h : rowsGo (i.stops.length + 1) 0 i.travel = false) : travelOk i = false := by unfold travelOk; rw [h, Bool.and_false]
theorem trav_yes {i : Inst} (h1 : i.travel.length = i.stops.length + 1) (h : rowsGo (i.stops.length + 1) 0 i.travel = true) : travelOk i = true := by unfold travelOk; rw [h, decide_eq_true h1]; rfl
theorem carRef (c : Car) : carOk c = (between c.c0 0 60 && (between c.c1 0 c.c2 && !decide (c.c2 > 1000))) := by
  rw [Bool.eq_iff_iff]
  simp only [carOk, between, Bool.and_eq_true, decide_eq_true_eq, Bool.not_eq_true', decide_eq_false_iff_not]
  omega
theorem stopRef (s : Stop) : stopOk s = (between s.s0 (-20) 20 && (between s.s1 0 s.s2 && (!decide (s.s2 > 1000) && between s.s3 0 1000))) := by
  rw [Bool.eq_iff_iff]
  simp only [stopOk, between, Bool.and_eq_true, decide_eq_true_eq, Bool.not_eq_true', decide_eq_false_iff_not]
  omega
theorem nt {b : Bool} (h : (!b) = false) : b = true := by simpa using h
theorem nf {b : Bool} (h : (!b) = true) : b = false := by simpa using h

set_option maxRecDepth 100000 in
set_option maxHeartbeats 4000000 in
theorem icheck_ok (i : Inst) (hs : i.Short) : CallsV Try.prog 75 [ei i] (.int .i64 (if checkB i = true then 0 else 1)) := by
  refine CallsR.intro (I0.sound _) mix Try.func75 rfl rfl (by simp [Try.f75]) (by kernel_rfl) (nb := 0) ?_
  unfold Try.f75
  refine Wp.seqI ?_
  refine Wp.regI I0.mono ?_
  refine GL.box I0.mono (by conv => lhs; whnf) rfl (n := 4) rfl rfl ?_
  intro g1
  refine GL.assign I0.mono (by conv => lhs; whnf) ?_
  refine GL.doneF ?_
  refine goOn ?_
  refine Wp.seqI ?_
  refine Wp.seqI ?_
  refine Wp.regI I0.mono ?_
  refine GL.fieldAddr I0.mono (o := 0) rfl rfl rfl rfl (by conv => lhs; whnf) ?_
  refine GL.load I0.mono rfl rfl rfl rfl (by simp) rfl rfl ?_
  refine GL.lenF I0.mono rfl rfl (em_len _ _) ?_
  refine GL.call0 I0.mono rfl (Frz.aggc (by exact Frz.pure rfl) (Frz.aggc (by exact Frz.pure rfl) (Frz.aggc (by exact Frz.pure rfl) (Frz.aggn)))) (iwithin_ok _ _ _) rfl rfl (fun _ => rfl) ?_
  refine GL.un I0.mono rfl ?_
  refine GL.move I0.mono (by conv => lhs; whnf) ?_
  refine GL.splitAt 8 rfl (fun h8 => ?_) (fun h8 => ?_)
  ·rw [h8]
   skip
   refine GL.guardF rfl ?_
   refine GL.guardF rfl ?_
   refine GL.guardF rfl ?_
   refine GL.guardF rfl ?_
   refine GL.pick I0.mono rfl (by conv => lhs; whnf) ?_
   refine GL.move I0.mono (by conv => lhs; whnf) ?_
   refine GL.guardF rfl ?_
   refine GL.guardF rfl ?_
   refine GL.guardF rfl ?_
   refine GL.guardF rfl ?_
   refine GL.pick I0.mono rfl (by conv => lhs; whnf) ?_
   refine GL.move I0.mono (by conv => lhs; whnf) ?_
   refine GL.guardF rfl ?_
   refine GL.guardF rfl ?_
   refine GL.guardF rfl ?_
   refine GL.guardF rfl ?_
   refine GL.pick I0.mono rfl (by conv => lhs; whnf) ?_
   refine GL.move I0.mono (by conv => lhs; whnf) ?_
   refine GL.guardF rfl ?_
   refine GL.guardF rfl ?_
   refine GL.guardF rfl ?_
   refine GL.pick I0.mono rfl (by conv => lhs; whnf) ?_
   refine GL.move I0.mono (by conv => lhs; whnf) ?_
   refine GL.guardF rfl ?_
   refine GL.guardF rfl ?_
   refine GL.guardF rfl ?_
   refine GL.pick I0.mono rfl (by conv => lhs; whnf) ?_
   refine GL.doneF ?_
   refine goOn ?_
   refine Wp.condT rfl ?_
   refine Wp.seqI ?_
   refine Wp.regI I0.mono ?_
   refine GL.assign I0.mono (by conv => lhs; whnf) ?_
   refine GL.doneF ?_
   refine goOn ?_
   refine Wp.retI ?_
   refine thenX.ret ?_
   refine RetX.ret ?_
   refine ⟨_, _, _, _, .cons (.tmp rfl) .nil, .frz (.pure rfl), List.nodup_nil, by simp, ?_⟩
   show LV.int _ _ = LV.int _ _
   congr 1
   symm
   first
   | exact if_pos (chk_yes (nt h8) (by omega) (nt h20) (nt h26) (nt h31) (nt h35))
   | exact if_neg (by rw [chk_cars (nf h8)]; simp)
   | exact if_neg (by rw [chk_many (by omega)]; simp)
   | exact if_neg (by rw [chk_car (nf h20)]; simp)
   | exact if_neg (by rw [chk_stop (nf h26)]; simp)
   | exact if_neg (by rw [chk_pairs (nf h31)]; simp)
   | exact if_neg (by rw [chk_trav (nf h35)]; simp)
  ·rw [h8]
   skip
   refine GL.guardT rfl ?_
   refine GL.fieldAddr I0.mono (o := 1) rfl rfl rfl rfl (by conv => lhs; whnf) ?_
   refine GL.guardT rfl ?_
   refine GL.load I0.mono rfl rfl rfl rfl (by simp) rfl rfl ?_
   refine GL.guardT rfl ?_
   refine GL.lenF I0.mono rfl rfl (em_len _ _) ?_
   refine GL.guardT rfl ?_
   refine GL.bin I0.mono rfl ?_
   refine GL.pick I0.mono rfl (by conv => lhs; whnf) ?_
   refine GL.move I0.mono (by conv => lhs; whnf) ?_
   refine GL.splitAt 14 rfl (fun h14 => ?_) (fun h14 => ?_)
   ·rw [h14]
    replace h14 := of_decide_eq_true h14
    refine GL.guardF rfl ?_
    refine GL.guardF rfl ?_
    refine GL.guardF rfl ?_
    refine GL.guardF rfl ?_
    refine GL.pick I0.mono rfl (by conv => lhs; whnf) ?_
    refine GL.move I0.mono (by conv => lhs; whnf) ?_
    refine GL.guardF rfl ?_
    refine GL.guardF rfl ?_
    refine GL.guardF rfl ?_
    refine GL.guardF rfl ?_
    refine GL.pick I0.mono rfl (by conv => lhs; whnf) ?_
    refine GL.move I0.mono (by conv => lhs; whnf) ?_
    refine GL.guardF rfl ?_
    refine GL.guardF rfl ?_
    refine GL.guardF rfl ?_
    refine GL.pick I0.mono rfl (by conv => lhs; whnf) ?_
    refine GL.move I0.mono (by conv => lhs; whnf) ?_
    refine GL.guardF rfl ?_
    refine GL.guardF rfl ?_
    refine GL.guardF rfl ?_
    refine GL.pick I0.mono rfl (by conv => lhs; whnf) ?_
    refine GL.doneF ?_
    refine goOn ?_
    refine Wp.condT rfl ?_
    refine Wp.seqI ?_
    refine Wp.regI I0.mono ?_
    refine GL.assign I0.mono (by conv => lhs; whnf) ?_
    refine GL.doneF ?_
    refine goOn ?_
    refine Wp.retI ?_
    refine thenX.ret ?_
    refine RetX.ret ?_
    refine ⟨_, _, _, _, .cons (.tmp rfl) .nil, .frz (.pure rfl), List.nodup_nil, by simp, ?_⟩
    show LV.int _ _ = LV.int _ _
    congr 1
    symm
    first
    | exact if_pos (chk_yes (nt h8) (by omega) (nt h20) (nt h26) (nt h31) (nt h35))
    | exact if_neg (by rw [chk_cars (nf h8)]; simp)
    | exact if_neg (by rw [chk_many (by omega)]; simp)
    | exact if_neg (by rw [chk_car (nf h20)]; simp)
    | exact if_neg (by rw [chk_stop (nf h26)]; simp)
    | exact if_neg (by rw [chk_pairs (nf h31)]; simp)
    | exact if_neg (by rw [chk_trav (nf h35)]; simp)
   ·rw [h14]
    replace h14 := of_decide_eq_false h14
    refine GL.guardT rfl ?_
    refine GL.fieldAddr I0.mono (o := 0) rfl rfl rfl rfl (by conv => lhs; whnf) ?_
    refine GL.guardT rfl ?_
    refine GL.load I0.mono rfl rfl rfl rfl (by simp) rfl rfl ?_
    refine GL.guardT rfl ?_
    refine GL.call0 I0.mono rfl (Frz.aggc (by exact Frz.pure rfl) (Frz.aggc (by exact Frz.fn Frz.aggn) (Frz.aggn))) (allC_ok _ hs.cars) rfl rfl (fun _ => rfl) ?_
    refine GL.guardT rfl ?_
    refine GL.un I0.mono rfl ?_
    refine GL.pick I0.mono rfl (by conv => lhs; whnf) ?_
    refine GL.move I0.mono (by conv => lhs; whnf) ?_
    refine GL.splitAt 20 rfl (fun h20 => ?_) (fun h20 => ?_)
    ·rw [h20]
     skip
     refine GL.guardF rfl ?_
     refine GL.guardF rfl ?_
     refine GL.guardF rfl ?_
     refine GL.guardF rfl ?_
     refine GL.pick I0.mono rfl (by conv => lhs; whnf) ?_
     refine GL.move I0.mono (by conv => lhs; whnf) ?_
     refine GL.guardF rfl ?_
     refine GL.guardF rfl ?_
     refine GL.guardF rfl ?_
     refine GL.pick I0.mono rfl (by conv => lhs; whnf) ?_
     refine GL.move I0.mono (by conv => lhs; whnf) ?_
     refine GL.guardF rfl ?_
     refine GL.guardF rfl ?_
     refine GL.guardF rfl ?_
     refine GL.pick I0.mono rfl (by conv => lhs; whnf) ?_
     refine GL.doneF ?_
     refine goOn ?_
     refine Wp.condT rfl ?_
     refine Wp.seqI ?_
     refine Wp.regI I0.mono ?_
     refine GL.assign I0.mono (by conv => lhs; whnf) ?_
     refine GL.doneF ?_
     refine goOn ?_
     refine Wp.retI ?_
     refine thenX.ret ?_
     refine RetX.ret ?_
     refine ⟨_, _, _, _, .cons (.tmp rfl) .nil, .frz (.pure rfl), List.nodup_nil, by simp, ?_⟩
     show LV.int _ _ = LV.int _ _
     congr 1
     symm
     first
     | exact if_pos (chk_yes (nt h8) (by omega) (nt h20) (nt h26) (nt h31) (nt h35))
     | exact if_neg (by rw [chk_cars (nf h8)]; simp)
     | exact if_neg (by rw [chk_many (by omega)]; simp)
     | exact if_neg (by rw [chk_car (nf h20)]; simp)
     | exact if_neg (by rw [chk_stop (nf h26)]; simp)
     | exact if_neg (by rw [chk_pairs (nf h31)]; simp)
     | exact if_neg (by rw [chk_trav (nf h35)]; simp)
    ·rw [h20]
     skip
     refine GL.guardT rfl ?_
     refine GL.fieldAddr I0.mono (o := 1) rfl rfl rfl rfl (by conv => lhs; whnf) ?_
     refine GL.guardT rfl ?_
     refine GL.load I0.mono rfl rfl rfl rfl (by simp) rfl rfl ?_
     refine GL.guardT rfl ?_
     refine GL.call0 I0.mono rfl (Frz.aggc (by exact Frz.pure rfl) (Frz.aggc (by exact Frz.fn Frz.aggn) (Frz.aggn))) (allS_ok _ hs.stops) rfl rfl (fun _ => rfl) ?_
     refine GL.guardT rfl ?_
     refine GL.un I0.mono rfl ?_
     refine GL.pick I0.mono rfl (by conv => lhs; whnf) ?_
     refine GL.move I0.mono (by conv => lhs; whnf) ?_
     refine GL.splitAt 26 rfl (fun h26 => ?_) (fun h26 => ?_)
     ·rw [h26]
      skip
      refine GL.guardF rfl ?_
      refine GL.guardF rfl ?_
      refine GL.guardF rfl ?_
      refine GL.pick I0.mono rfl (by conv => lhs; whnf) ?_
      refine GL.move I0.mono (by conv => lhs; whnf) ?_
      refine GL.guardF rfl ?_
      refine GL.guardF rfl ?_
      refine GL.guardF rfl ?_
      refine GL.pick I0.mono rfl (by conv => lhs; whnf) ?_
      refine GL.doneF ?_
      refine goOn ?_
      refine Wp.condT rfl ?_
      refine Wp.seqI ?_
      refine Wp.regI I0.mono ?_
      refine GL.assign I0.mono (by conv => lhs; whnf) ?_
      refine GL.doneF ?_
      refine goOn ?_
      refine Wp.retI ?_
      refine thenX.ret ?_
      refine RetX.ret ?_
      refine ⟨_, _, _, _, .cons (.tmp rfl) .nil, .frz (.pure rfl), List.nodup_nil, by simp, ?_⟩
      show LV.int _ _ = LV.int _ _
      congr 1
      symm
      first
      | exact if_pos (chk_yes (nt h8) (by omega) (nt h20) (nt h26) (nt h31) (nt h35))
      | exact if_neg (by rw [chk_cars (nf h8)]; simp)
      | exact if_neg (by rw [chk_many (by omega)]; simp)
      | exact if_neg (by rw [chk_car (nf h20)]; simp)
      | exact if_neg (by rw [chk_stop (nf h26)]; simp)
      | exact if_neg (by rw [chk_pairs (nf h31)]; simp)
      | exact if_neg (by rw [chk_trav (nf h35)]; simp)
     ·rw [h26]
      skip
      refine GL.guardT rfl ?_
      refine GL.loadW I0.mono (n := 4) rfl rfl rfl rfl (by simp) rfl rfl rfl ?_
      refine GL.guardT rfl ?_
      refine GL.call0 I0.mono rfl (Frz.aggc (by exact Frz.pures rfl) (Frz.aggn)) (pairs_ok i hs (nt h26)) rfl rfl (fun _ => rfl) ?_
      refine GL.guardT rfl ?_
      refine GL.un I0.mono rfl ?_
      refine GL.pick I0.mono rfl (by conv => lhs; whnf) ?_
      refine GL.move I0.mono (by conv => lhs; whnf) ?_
      refine GL.splitAt 31 rfl (fun h31 => ?_) (fun h31 => ?_)
      ·rw [h31]
       skip
       refine GL.guardF rfl ?_
       refine GL.guardF rfl ?_
       refine GL.guardF rfl ?_
       refine GL.pick I0.mono rfl (by conv => lhs; whnf) ?_
       refine GL.doneF ?_
       refine goOn ?_
       refine Wp.condT rfl ?_
       refine Wp.seqI ?_
       refine Wp.regI I0.mono ?_
       refine GL.assign I0.mono (by conv => lhs; whnf) ?_
       refine GL.doneF ?_
       refine goOn ?_
       refine Wp.retI ?_
       refine thenX.ret ?_
       refine RetX.ret ?_
       refine ⟨_, _, _, _, .cons (.tmp rfl) .nil, .frz (.pure rfl), List.nodup_nil, by simp, ?_⟩
       show LV.int _ _ = LV.int _ _
       congr 1
       symm
       first
       | exact if_pos (chk_yes (nt h8) (by omega) (nt h20) (nt h26) (nt h31) (nt h35))
       | exact if_neg (by rw [chk_cars (nf h8)]; simp)
       | exact if_neg (by rw [chk_many (by omega)]; simp)
       | exact if_neg (by rw [chk_car (nf h20)]; simp)
       | exact if_neg (by rw [chk_stop (nf h26)]; simp)
       | exact if_neg (by rw [chk_pairs (nf h31)]; simp)
       | exact if_neg (by rw [chk_trav (nf h35)]; simp)
      ·rw [h31]
       skip
       refine GL.guardT rfl ?_
       refine GL.loadW I0.mono (n := 4) rfl rfl rfl rfl (by simp) rfl rfl rfl ?_
       refine GL.guardT rfl ?_
       refine GL.call0 I0.mono rfl (Frz.aggc (by exact Frz.pures rfl) (Frz.aggn)) (travel_ok i hs) rfl rfl (fun _ => rfl) ?_
       refine GL.guardT rfl ?_
       refine GL.un I0.mono rfl ?_
       refine GL.pick I0.mono rfl (by conv => lhs; whnf) ?_
       refine GL.doneF ?_
       refine goOn ?_
       refine Wp.condI rfl (fun h35 => ?_) (fun h35 => ?_)
       ·skip
        refine Wp.seqI ?_
        refine Wp.regI I0.mono ?_
        refine GL.assign I0.mono (by conv => lhs; whnf) ?_
        refine GL.doneF ?_
        refine goOn ?_
        refine Wp.retI ?_
        refine thenX.ret ?_
        refine RetX.ret ?_
        refine ⟨_, _, _, _, .cons (.tmp rfl) .nil, .frz (.pure rfl), List.nodup_nil, by simp, ?_⟩
        show LV.int _ _ = LV.int _ _
        congr 1
        symm
        first
        | exact if_pos (chk_yes (nt h8) (by omega) (nt h20) (nt h26) (nt h31) (nt h35))
        | exact if_neg (by rw [chk_cars (nf h8)]; simp)
        | exact if_neg (by rw [chk_many (by omega)]; simp)
        | exact if_neg (by rw [chk_car (nf h20)]; simp)
        | exact if_neg (by rw [chk_stop (nf h26)]; simp)
        | exact if_neg (by rw [chk_pairs (nf h31)]; simp)
        | exact if_neg (by rw [chk_trav (nf h35)]; simp)
       ·skip
        refine Wp.skipI ?_
        refine goOn ?_
        refine Wp.seqI ?_
        refine Wp.regI I0.mono ?_
        refine GL.assign I0.mono (by conv => lhs; whnf) ?_
        refine GL.doneF ?_
        refine goOn ?_
        refine Wp.retI ?_
        refine RetX.ret ?_
        refine ⟨_, _, _, _, .cons (.tmp rfl) .nil, .frz (.pure rfl), List.nodup_nil, by simp, ?_⟩
        show LV.int _ _ = LV.int _ _
        congr 1
        symm
        first
        | exact if_pos (chk_yes (nt h8) (by omega) (nt h20) (nt h26) (nt h31) (nt h35))
        | exact if_neg (by rw [chk_cars (nf h8)]; simp)
        | exact if_neg (by rw [chk_many (by omega)]; simp)
        | exact if_neg (by rw [chk_car (nf h20)]; simp)
        | exact if_neg (by rw [chk_stop (nf h26)]; simp)
        | exact if_neg (by rw [chk_pairs (nf h31)]; simp)
        | exact if_neg (by rw [chk_trav (nf h35)]; simp)

set_option maxRecDepth 100000 in
set_option maxHeartbeats 4000000 in
theorem rcheck_ok (i : Inst) (hs : i.Short) : CallsV Try.prog 73 [ei i] (.bool (checkB i)) := by
  refine CallsR.intro (I0.sound _) mix Try.func73 rfl rfl (by simp [Try.f73]) (by kernel_rfl) (nb := 0) ?_
  unfold Try.f73
  refine Wp.seqI ?_
  have hp := hs.pairs
  have hsl := hs.stops
  have hcl := hs.cars
  have htl := hs.travel
  unfold Short at hp hsl hcl htl
  refine Wp.regI I0.mono ?_
  refine GL.box I0.mono (by conv => lhs; whnf) rfl (n := 4) rfl rfl ?_
  intro g1
  refine GL.assign I0.mono (by conv => lhs; whnf) ?_
  refine GL.doneF ?_
  refine goOn ?_
  refine Wp.seqI ?_
  refine Wp.seqI ?_
  refine Wp.regI I0.mono ?_
  refine GL.fieldAddr I0.mono (o := 0) rfl rfl rfl rfl (by conv => lhs; whnf) ?_
  refine GL.load I0.mono rfl rfl rfl rfl (by simp) rfl rfl ?_
  refine GL.lenF I0.mono rfl rfl (em_len _ _) ?_
  refine GL.call0 I0.mono rfl (Frz.aggc (by exact Frz.pure rfl) (Frz.aggc (by exact Frz.pure rfl) (Frz.aggc (by exact Frz.pure rfl) (Frz.aggn)))) (rwithin_ok _ _ _) rfl rfl (fun _ => rfl) ?_
  refine GL.un I0.mono rfl ?_
  refine GL.move I0.mono (by conv => lhs; whnf) ?_
  refine GL.splitAt 22 rfl (fun h22 => ?_) (fun h22 => ?_)
  ·rw [h22]
   skip
   refine GL.guardF rfl ?_
   refine GL.guardF rfl ?_
   refine GL.guardF rfl ?_
   refine GL.guardF rfl ?_
   refine GL.pick I0.mono rfl (by conv => lhs; whnf) ?_
   refine GL.move I0.mono (by conv => lhs; whnf) ?_
   refine GL.guardF rfl ?_
   refine GL.guardF rfl ?_
   refine GL.guardF rfl ?_
   refine GL.guardF rfl ?_
   refine GL.guardF rfl ?_
   refine GL.guardF rfl ?_
   refine GL.guardF rfl ?_
   refine GL.guardF rfl ?_
   refine GL.pick I0.mono rfl (by conv => lhs; whnf) ?_
   refine GL.doneF ?_
   refine goOn ?_
   refine Wp.condT rfl ?_
   refine Wp.seqI ?_
   refine Wp.regI I0.mono ?_
   refine GL.assign I0.mono (by conv => lhs; whnf) ?_
   refine GL.doneF ?_
   refine goOn ?_
   refine Wp.retI ?_
   refine thenX.ret ?_
   refine RetX.ret ?_
   refine ⟨_, _, _, _, .cons (.tmp rfl) .nil, .frz (.pure rfl), List.nodup_nil, by simp, ?_⟩
   show LV.bool _ = LV.bool _
   congr 1
   first
   | exact (chk_cars (nf h22)).symm
   | exact (chk_many (by omega)).symm
   | exact (chk_trav (trav_len (by omega))).symm
   | exact (chk_car (all_no (k := k) (by omega) (by rw [carRef]; simp_all))).symm
   | exact (chk_stop (all_no (k := k) (by omega) (by rw [stopRef]; simp_all))).symm
   | exact (chk_pairs (by rw [hA, pairs_no (by omega) (by rw [pair_had, hadK_none hj2 (by rw [hadK_step hj2 hH, had1_no (by simp_all)])]; rfl)])).symm
   | exact (chk_pairs (by rw [hA, pairs_no (by omega) (by rw [pair_had, hH2]; exact if_pos (by first | exact .inl h130 | exact .inr h142))])).symm
   | exact (chk_trav (trav_rows (by rw [hT, rows_no (by omega) (by rw [rowOk, decide_eq_false (by omega)]; rfl)]))).symm
   | exact (chk_trav (trav_rows (by rw [hT, rows_no (by omega) hbad]))).symm
   | exact (chk_yes (nt h22) (by omega) hcars hstops hpairs (trav_yes (by omega) (by rw [hT, rows_end (by omega)]))).symm
  
  ·rw [h22]
   skip
   refine GL.guardT rfl ?_
   refine GL.fieldAddr I0.mono (o := 1) rfl rfl rfl rfl (by conv => lhs; whnf) ?_
   refine GL.guardT rfl ?_
   refine GL.load I0.mono rfl rfl rfl rfl (by simp) rfl rfl ?_
   refine GL.guardT rfl ?_
   refine GL.lenF I0.mono rfl rfl (em_len _ _) ?_
   refine GL.guardT rfl ?_
   refine GL.bin I0.mono rfl ?_
   refine GL.pick I0.mono rfl (by conv => lhs; whnf) ?_
   refine GL.move I0.mono (by conv => lhs; whnf) ?_
   refine GL.splitAt 28 rfl (fun h28 => ?_) (fun h28 => ?_)
   ·rw [h28]
    replace h28 := of_decide_eq_true h28
    refine GL.guardF rfl ?_
    refine GL.guardF rfl ?_
    refine GL.guardF rfl ?_
    refine GL.guardF rfl ?_
    refine GL.guardF rfl ?_
    refine GL.guardF rfl ?_
    refine GL.guardF rfl ?_
    refine GL.guardF rfl ?_
    refine GL.pick I0.mono rfl (by conv => lhs; whnf) ?_
    refine GL.doneF ?_
    refine goOn ?_
    refine Wp.condT rfl ?_
    refine Wp.seqI ?_
    refine Wp.regI I0.mono ?_
    refine GL.assign I0.mono (by conv => lhs; whnf) ?_
    refine GL.doneF ?_
    refine goOn ?_
    refine Wp.retI ?_
    refine thenX.ret ?_
    refine RetX.ret ?_
    refine ⟨_, _, _, _, .cons (.tmp rfl) .nil, .frz (.pure rfl), List.nodup_nil, by simp, ?_⟩
    show LV.bool _ = LV.bool _
    congr 1
    first
    | exact (chk_cars (nf h22)).symm
    | exact (chk_many (by omega)).symm
    | exact (chk_trav (trav_len (by omega))).symm
    | exact (chk_car (all_no (k := k) (by omega) (by rw [carRef]; simp_all))).symm
    | exact (chk_stop (all_no (k := k) (by omega) (by rw [stopRef]; simp_all))).symm
    | exact (chk_pairs (by rw [hA, pairs_no (by omega) (by rw [pair_had, hadK_none hj2 (by rw [hadK_step hj2 hH, had1_no (by simp_all)])]; rfl)])).symm
    | exact (chk_pairs (by rw [hA, pairs_no (by omega) (by rw [pair_had, hH2]; exact if_pos (by first | exact .inl h130 | exact .inr h142))])).symm
    | exact (chk_trav (trav_rows (by rw [hT, rows_no (by omega) (by rw [rowOk, decide_eq_false (by omega)]; rfl)]))).symm
    | exact (chk_trav (trav_rows (by rw [hT, rows_no (by omega) hbad]))).symm
    | exact (chk_yes (nt h22) (by omega) hcars hstops hpairs (trav_yes (by omega) (by rw [hT, rows_end (by omega)]))).symm
   
   ·rw [h28]
    replace h28 := of_decide_eq_false h28
    refine GL.guardT rfl ?_
    refine GL.fieldAddr I0.mono (o := 3) rfl rfl rfl rfl (by conv => lhs; whnf) ?_
    refine GL.guardT rfl ?_
    refine GL.load I0.mono rfl rfl rfl rfl (by simp) rfl rfl ?_
    refine GL.guardT rfl ?_
    refine GL.lenF I0.mono rfl rfl (em_len _ _) ?_
    refine GL.guardT rfl ?_
    refine GL.fieldAddr I0.mono (o := 1) rfl rfl rfl rfl (by conv => lhs; whnf) ?_
    refine GL.guardT rfl ?_
    refine GL.load I0.mono rfl rfl rfl rfl (by simp) rfl rfl ?_
    refine GL.guardT rfl ?_
    refine GL.lenF I0.mono rfl rfl (em_len _ _) ?_
    refine GL.guardT rfl ?_
    refine GL.addR I0.mono rfl rfl (by omega) ?_
    refine GL.guardT rfl ?_
    refine GL.bin I0.mono rfl ?_
    refine GL.pick I0.mono rfl (by conv => lhs; whnf) ?_
    refine GL.doneF ?_
    refine goOn ?_
    refine Wp.condI rfl (fun h37 => ?_) (fun h37 => ?_)
    ·replace h37 := bne_true h37
     refine Wp.seqI ?_
     refine Wp.regI I0.mono ?_
     refine GL.assign I0.mono (by conv => lhs; whnf) ?_
     refine GL.doneF ?_
     refine goOn ?_
     refine Wp.retI ?_
     refine thenX.ret ?_
     refine RetX.ret ?_
     refine ⟨_, _, _, _, .cons (.tmp rfl) .nil, .frz (.pure rfl), List.nodup_nil, by simp, ?_⟩
     show LV.bool _ = LV.bool _
     congr 1
     first
     | exact (chk_cars (nf h22)).symm
     | exact (chk_many (by omega)).symm
     | exact (chk_trav (trav_len (by omega))).symm
     | exact (chk_car (all_no (k := k) (by omega) (by rw [carRef]; simp_all))).symm
     | exact (chk_stop (all_no (k := k) (by omega) (by rw [stopRef]; simp_all))).symm
     | exact (chk_pairs (by rw [hA, pairs_no (by omega) (by rw [pair_had, hadK_none hj2 (by rw [hadK_step hj2 hH, had1_no (by simp_all)])]; rfl)])).symm
     | exact (chk_pairs (by rw [hA, pairs_no (by omega) (by rw [pair_had, hH2]; exact if_pos (by first | exact .inl h130 | exact .inr h142))])).symm
     | exact (chk_trav (trav_rows (by rw [hT, rows_no (by omega) (by rw [rowOk, decide_eq_false (by omega)]; rfl)]))).symm
     | exact (chk_trav (trav_rows (by rw [hT, rows_no (by omega) hbad]))).symm
     | exact (chk_yes (nt h22) (by omega) hcars hstops hpairs (trav_yes (by omega) (by rw [hT, rows_end (by omega)]))).symm
    
    ·replace h37 := bne_false h37
     refine Wp.skipI ?_
     refine goOn ?_
     refine Wp.seqI ?_
     refine Wp.seqI ?_
     refine Wp.regI I0.mono ?_
     refine GL.fieldAddr I0.mono (o := 0) rfl rfl rfl rfl (by conv => lhs; whnf) ?_
     refine GL.load I0.mono rfl rfl rfl rfl (by simp) rfl rfl ?_
     refine GL.lenF I0.mono rfl rfl (em_len _ _) ?_
     refine GL.move I0.mono (by conv => lhs; whnf) ?_
     refine GL.doneF ?_
     refine goOn ?_
     refine Wp.blockI ?_
     refine Wp.loopI I0.mono (α := Nat) (fun k st => (k ≤ i.cars.length ∧ ∀ j, j < k → carOk (i.cars.getD j default) = true) ∧ ∃ m0, st = ⟨(updS (updS (updS (updS (fun _ => LV.undef) 1 (.ref 64 g1 0 0)) 39 (.sl (em nc i.cars))) 40 (.int .i64 (i.cars.length : Int))) 41 (.int .i64 (k : Int))), effM m0 [(64, ⟨g1, false, .var, 4, [ic i]⟩)]⟩) (fun k => i.cars.length - k) 0 ⟨_, (LessS.weak (LessS.upd (LessS.upd (LessS.upd (LessS.upd (LessS.nil _) rfl) rfl) rfl) rfl) _), ⟨Nat.zero_le _, fun j h => by omega⟩, _, (congrArg (St.mk _) (effM_eq (Has.cons rfl Has.nil)).symm)⟩ ?_
     rintro k _ ⟨⟨hk, hC⟩, m0, rfl⟩
     refine Wp.seqI ?_
     refine Wp.regI I0.mono ?_
     refine GL.bin I0.mono rfl ?_
     refine GL.doneF ?_
     refine goOn ?_
     refine Wp.seqI ?_
     refine Wp.condI rfl (fun h42 => ?_) (fun h42 => ?_)
     ·replace h42 := of_decide_eq_true h42
      refine Wp.skipI ?_
      refine goOn ?_
      refine Wp.seqI ?_
      refine Wp.blockI ?_
      refine Wp.seqI ?_
      refine Wp.regI I0.mono ?_
      refine GL.indexAddrF I0.mono (sz := 3) rfl rfl rfl rfl (by omega) (by (rw [em_len]; omega)) (by intro e he; obtain ⟨a, -, rfl⟩ := List.mem_map.1 he; rfl) (by with_reducible exact Int.toNat_natCast _) ?_
      refine GL.loadFW I0.mono (n := 3) rfl rfl (em_get (by omega)) rfl rfl ?_
      refine GL.alloc I0.mono (cs := [LV.int .i64 0, LV.int .i64 0, LV.int .i64 0]) rfl rfl ?_
      intro g4
      refine GL.storeW I0.mono (n := 3) rfl rfl rfl rfl rfl rfl rfl (by conv => lhs; whnf) rfl rfl rfl ?_
      refine GL.doneF ?_
      refine goOn ?_
      refine Wp.seqI ?_
      refine Wp.regI I0.mono ?_
      refine GL.fieldAddr I0.mono (o := 0) rfl rfl rfl rfl (by conv => lhs; whnf) ?_
      refine GL.load I0.mono rfl rfl rfl rfl (by simp) rfl rfl ?_
      refine GL.call0 I0.mono rfl (Frz.aggc (by exact Frz.pure rfl) (Frz.aggc (by exact Frz.pure rfl) (Frz.aggc (by exact Frz.pure rfl) (Frz.aggn)))) (rwithin_ok _ _ _) rfl rfl (fun _ => rfl) ?_
      refine GL.un I0.mono rfl ?_
      refine GL.move I0.mono (by conv => lhs; whnf) ?_
      refine GL.splitAt 49 rfl (fun h49 => ?_) (fun h49 => ?_)
      ·rw [h49]
       skip
       refine GL.guardF rfl ?_
       refine GL.guardF rfl ?_
       refine GL.guardF rfl ?_
       refine GL.guardF rfl ?_
       refine GL.guardF rfl ?_
       refine GL.guardF rfl ?_
       refine GL.pick I0.mono rfl (by conv => lhs; whnf) ?_
       refine GL.move I0.mono (by conv => lhs; whnf) ?_
       refine GL.guardF rfl ?_
       refine GL.guardF rfl ?_
       refine GL.guardF rfl ?_
       refine GL.pick I0.mono rfl (by conv => lhs; whnf) ?_
       refine GL.doneF ?_
       refine goOn ?_
       refine Wp.condT rfl ?_
       refine Wp.seqI ?_
       refine Wp.regI I0.mono ?_
       refine GL.assign I0.mono (by conv => lhs; whnf) ?_
       refine GL.doneF ?_
       refine goOn ?_
       refine Wp.retI ?_
       refine blockX.ret ?_
       refine thenX.ret ?_
       refine thenX.ret ?_
       refine blockX.ret ?_
       refine thenX.ret ?_
       refine RetX.ret ?_
       refine ⟨_, _, _, _, .cons (.tmp rfl) .nil, .frz (.pure rfl), List.nodup_nil, by simp, ?_⟩
       show LV.bool _ = LV.bool _
       congr 1
       first
       | exact (chk_cars (nf h22)).symm
       | exact (chk_many (by omega)).symm
       | exact (chk_trav (trav_len (by omega))).symm
       | exact (chk_car (all_no (k := k) (by omega) (by rw [carRef]; simp_all))).symm
       | exact (chk_stop (all_no (k := k) (by omega) (by rw [stopRef]; simp_all))).symm
       | exact (chk_pairs (by rw [hA, pairs_no (by omega) (by rw [pair_had, hadK_none hj2 (by rw [hadK_step hj2 hH, had1_no (by simp_all)])]; rfl)])).symm
       | exact (chk_pairs (by rw [hA, pairs_no (by omega) (by rw [pair_had, hH2]; exact if_pos (by first | exact .inl h130 | exact .inr h142))])).symm
       | exact (chk_trav (trav_rows (by rw [hT, rows_no (by omega) (by rw [rowOk, decide_eq_false (by omega)]; rfl)]))).symm
       | exact (chk_trav (trav_rows (by rw [hT, rows_no (by omega) hbad]))).symm
       | exact (chk_yes (nt h22) (by omega) hcars hstops hpairs (trav_yes (by omega) (by rw [hT, rows_end (by omega)]))).symm
      
      ·rw [h49]
       skip
       refine GL.guardT rfl ?_
       refine GL.fieldAddr I0.mono (o := 1) rfl rfl rfl rfl (by conv => lhs; whnf) ?_
       refine GL.guardT rfl ?_
       refine GL.load I0.mono rfl rfl rfl rfl (by simp) rfl rfl ?_
       refine GL.guardT rfl ?_
       refine GL.fieldAddr I0.mono (o := 2) rfl rfl rfl rfl (by conv => lhs; whnf) ?_
       refine GL.guardT rfl ?_
       refine GL.load I0.mono rfl rfl rfl rfl (by simp) rfl rfl ?_
       refine GL.guardT rfl ?_
       refine GL.call0 I0.mono rfl (Frz.aggc (by exact Frz.pure rfl) (Frz.aggc (by exact Frz.pure rfl) (Frz.aggc (by exact Frz.pure rfl) (Frz.aggn)))) (rwithin_ok _ _ _) rfl rfl (fun _ => rfl) ?_
       refine GL.guardT rfl ?_
       refine GL.un I0.mono rfl ?_
       refine GL.pick I0.mono rfl (by conv => lhs; whnf) ?_
       refine GL.move I0.mono (by conv => lhs; whnf) ?_
       refine GL.splitAt 57 rfl (fun h57 => ?_) (fun h57 => ?_)
       ·rw [h57]
        skip
        refine GL.guardF rfl ?_
        refine GL.guardF rfl ?_
        refine GL.guardF rfl ?_
        refine GL.pick I0.mono rfl (by conv => lhs; whnf) ?_
        refine GL.doneF ?_
        refine goOn ?_
        refine Wp.condT rfl ?_
        refine Wp.seqI ?_
        refine Wp.regI I0.mono ?_
        refine GL.assign I0.mono (by conv => lhs; whnf) ?_
        refine GL.doneF ?_
        refine goOn ?_
        refine Wp.retI ?_
        refine blockX.ret ?_
        refine thenX.ret ?_
        refine thenX.ret ?_
        refine blockX.ret ?_
        refine thenX.ret ?_
        refine RetX.ret ?_
        refine ⟨_, _, _, _, .cons (.tmp rfl) .nil, .frz (.pure rfl), List.nodup_nil, by simp, ?_⟩
        show LV.bool _ = LV.bool _
        congr 1
        first
        | exact (chk_cars (nf h22)).symm
        | exact (chk_many (by omega)).symm
        | exact (chk_trav (trav_len (by omega))).symm
        | exact (chk_car (all_no (k := k) (by omega) (by rw [carRef]; simp_all))).symm
        | exact (chk_stop (all_no (k := k) (by omega) (by rw [stopRef]; simp_all))).symm
        | exact (chk_pairs (by rw [hA, pairs_no (by omega) (by rw [pair_had, hadK_none hj2 (by rw [hadK_step hj2 hH, had1_no (by simp_all)])]; rfl)])).symm
        | exact (chk_pairs (by rw [hA, pairs_no (by omega) (by rw [pair_had, hH2]; exact if_pos (by first | exact .inl h130 | exact .inr h142))])).symm
        | exact (chk_trav (trav_rows (by rw [hT, rows_no (by omega) (by rw [rowOk, decide_eq_false (by omega)]; rfl)]))).symm
        | exact (chk_trav (trav_rows (by rw [hT, rows_no (by omega) hbad]))).symm
        | exact (chk_yes (nt h22) (by omega) hcars hstops hpairs (trav_yes (by omega) (by rw [hT, rows_end (by omega)]))).symm
       
       ·rw [h57]
        skip
        refine GL.guardT rfl ?_
        refine GL.fieldAddr I0.mono (o := 2) rfl rfl rfl rfl (by conv => lhs; whnf) ?_
        refine GL.guardT rfl ?_
        refine GL.load I0.mono rfl rfl rfl rfl (by simp) rfl rfl ?_
        refine GL.guardT rfl ?_
        refine GL.bin I0.mono rfl ?_
        refine GL.pick I0.mono rfl (by conv => lhs; whnf) ?_
        refine GL.doneF ?_
        refine goOn ?_
        refine Wp.condI rfl (fun h61 => ?_) (fun h61 => ?_)
        ·replace h61 := of_decide_eq_true h61
         refine Wp.seqI ?_
         refine Wp.regI I0.mono ?_
         refine GL.assign I0.mono (by conv => lhs; whnf) ?_
         refine GL.doneF ?_
         refine goOn ?_
         refine Wp.retI ?_
         refine blockX.ret ?_
         refine thenX.ret ?_
         refine thenX.ret ?_
         refine blockX.ret ?_
         refine thenX.ret ?_
         refine RetX.ret ?_
         refine ⟨_, _, _, _, .cons (.tmp rfl) .nil, .frz (.pure rfl), List.nodup_nil, by simp, ?_⟩
         show LV.bool _ = LV.bool _
         congr 1
         first
         | exact (chk_cars (nf h22)).symm
         | exact (chk_many (by omega)).symm
         | exact (chk_trav (trav_len (by omega))).symm
         | exact (chk_car (all_no (k := k) (by omega) (by rw [carRef]; simp_all))).symm
         | exact (chk_stop (all_no (k := k) (by omega) (by rw [stopRef]; simp_all))).symm
         | exact (chk_pairs (by rw [hA, pairs_no (by omega) (by rw [pair_had, hadK_none hj2 (by rw [hadK_step hj2 hH, had1_no (by simp_all)])]; rfl)])).symm
         | exact (chk_pairs (by rw [hA, pairs_no (by omega) (by rw [pair_had, hH2]; exact if_pos (by first | exact .inl h130 | exact .inr h142))])).symm
         | exact (chk_trav (trav_rows (by rw [hT, rows_no (by omega) (by rw [rowOk, decide_eq_false (by omega)]; rfl)]))).symm
         | exact (chk_trav (trav_rows (by rw [hT, rows_no (by omega) hbad]))).symm
         | exact (chk_yes (nt h22) (by omega) hcars hstops hpairs (trav_yes (by omega) (by rw [hT, rows_end (by omega)]))).symm
        
        ·replace h61 := of_decide_eq_false h61
         refine Wp.skipI ?_
         refine blockX.normal ?_
         refine goOn ?_
         refine Wp.regI I0.mono ?_
         refine GL.addR I0.mono rfl rfl (by omega) ?_
         refine GL.move I0.mono (by conv => lhs; whnf) ?_
         refine GL.doneF ?_
         refine ⟨k + 1, (by dsimp only; omega), _, (LessS.weak (LessS.upd (LessS.upd (LessS.upd (LessS.upd (LessS.nil _) rfl) rfl) rfl) rfl) _), ⟨by omega, fun j h => by
               by_cases hj : j = k
               · subst hj; rw [carRef]; simp_all
               · exact hC j (by omega)⟩, _, (congrArg (St.mk _) (effM_eq (Has.cons rfl Has.nil)).symm)⟩
     ·replace h42 := of_decide_eq_false h42
      have hcars := all_yes (l := i.cars) (f := carOk) fun j hj => hC j (by omega)
      refine Wp.exitI ?_
      refine thenX.exit ?_
      refine thenX.exit ?_
      refine blockX.out ?_
      refine goOn ?_
      refine Wp.seqI ?_
      refine Wp.seqI ?_
      refine Wp.regI I0.mono ?_
      refine GL.fieldAddr I0.mono (o := 1) rfl rfl rfl rfl (by conv => lhs; whnf) ?_
      refine GL.load I0.mono rfl rfl rfl rfl (by simp) rfl rfl ?_
      refine GL.lenF I0.mono rfl rfl (em_len _ _) ?_
      refine GL.move I0.mono (by conv => lhs; whnf) ?_
      refine GL.doneF ?_
      refine goOn ?_
      refine Wp.blockI ?_
      refine Wp.loopI I0.mono (α := Nat) (fun k st => (k ≤ i.stops.length ∧ ∀ j, j < k → stopOk (i.stops.getD j default) = true) ∧ ∃ m0, st = ⟨(updS (updS (updS (updS (fun _ => LV.undef) 1 (.ref 64 g1 0 0)) 64 (.sl (em ns i.stops))) 65 (.int .i64 (i.stops.length : Int))) 66 (.int .i64 (k : Int))), effM m0 [(64, ⟨g1, false, .var, 4, [ic i]⟩)]⟩) (fun k => i.stops.length - k) 0 ⟨_, (LessS.weak (LessS.upd (LessS.upd (LessS.upd (LessS.upd (LessS.nil _) rfl) rfl) rfl) rfl) _), ⟨Nat.zero_le _, fun j h => by omega⟩, _, (congrArg (St.mk _) (effM_eq (Has.cons rfl Has.nil)).symm)⟩ ?_
      rintro k _ ⟨⟨hk, hS⟩, m0, rfl⟩
      refine Wp.seqI ?_
      refine Wp.regI I0.mono ?_
      refine GL.bin I0.mono rfl ?_
      refine GL.doneF ?_
      refine goOn ?_
      refine Wp.seqI ?_
      refine Wp.condI rfl (fun h67 => ?_) (fun h67 => ?_)
      ·replace h67 := of_decide_eq_true h67
       refine Wp.skipI ?_
       refine goOn ?_
       refine Wp.seqI ?_
       refine Wp.blockI ?_
       refine Wp.seqI ?_
       refine Wp.regI I0.mono ?_
       refine GL.indexAddrF I0.mono (sz := 4) rfl rfl rfl rfl (by omega) (by (rw [em_len]; omega)) (by intro e he; obtain ⟨a, -, rfl⟩ := List.mem_map.1 he; rfl) (by with_reducible exact Int.toNat_natCast _) ?_
       refine GL.loadFW I0.mono (n := 4) rfl rfl (em_get (by omega)) rfl rfl ?_
       refine GL.alloc I0.mono (cs := [LV.int .i64 0, LV.int .i64 0, LV.int .i64 0, LV.int .i64 0]) rfl rfl ?_
       intro g6
       refine GL.storeW I0.mono (n := 4) rfl rfl rfl rfl rfl rfl rfl (by conv => lhs; whnf) rfl rfl rfl ?_
       refine GL.doneF ?_
       refine goOn ?_
       refine Wp.seqI ?_
       refine Wp.regI I0.mono ?_
       refine GL.fieldAddr I0.mono (o := 0) rfl rfl rfl rfl (by conv => lhs; whnf) ?_
       refine GL.load I0.mono rfl rfl rfl rfl (by simp) rfl rfl ?_
       refine GL.call0 I0.mono rfl (Frz.aggc (by exact Frz.pure rfl) (Frz.aggc (by exact Frz.pure rfl) (Frz.aggc (by exact Frz.pure rfl) (Frz.aggn)))) (rwithin_ok _ _ _) rfl rfl (fun _ => rfl) ?_
       refine GL.un I0.mono rfl ?_
       refine GL.move I0.mono (by conv => lhs; whnf) ?_
       refine GL.splitAt 74 rfl (fun h74 => ?_) (fun h74 => ?_)
       ·rw [h74]
        skip
        refine GL.guardF rfl ?_
        refine GL.guardF rfl ?_
        refine GL.guardF rfl ?_
        refine GL.guardF rfl ?_
        refine GL.guardF rfl ?_
        refine GL.guardF rfl ?_
        refine GL.pick I0.mono rfl (by conv => lhs; whnf) ?_
        refine GL.move I0.mono (by conv => lhs; whnf) ?_
        refine GL.guardF rfl ?_
        refine GL.guardF rfl ?_
        refine GL.guardF rfl ?_
        refine GL.pick I0.mono rfl (by conv => lhs; whnf) ?_
        refine GL.move I0.mono (by conv => lhs; whnf) ?_
        refine GL.guardF rfl ?_
        refine GL.guardF rfl ?_
        refine GL.guardF rfl ?_
        refine GL.guardF rfl ?_
        refine GL.pick I0.mono rfl (by conv => lhs; whnf) ?_
        refine GL.doneF ?_
        refine goOn ?_
        refine Wp.condT rfl ?_
        refine Wp.seqI ?_
        refine Wp.regI I0.mono ?_
        refine GL.assign I0.mono (by conv => lhs; whnf) ?_
        refine GL.doneF ?_
        refine goOn ?_
        refine Wp.retI ?_
        refine blockX.ret ?_
        refine thenX.ret ?_
        refine thenX.ret ?_
        refine blockX.ret ?_
        refine thenX.ret ?_
        refine RetX.ret ?_
        refine ⟨_, _, _, _, .cons (.tmp rfl) .nil, .frz (.pure rfl), List.nodup_nil, by simp, ?_⟩
        show LV.bool _ = LV.bool _
        congr 1
        first
        | exact (chk_cars (nf h22)).symm
        | exact (chk_many (by omega)).symm
        | exact (chk_trav (trav_len (by omega))).symm
        | exact (chk_car (all_no (k := k) (by omega) (by rw [carRef]; simp_all))).symm
        | exact (chk_stop (all_no (k := k) (by omega) (by rw [stopRef]; simp_all))).symm
        | exact (chk_pairs (by rw [hA, pairs_no (by omega) (by rw [pair_had, hadK_none hj2 (by rw [hadK_step hj2 hH, had1_no (by simp_all)])]; rfl)])).symm
        | exact (chk_pairs (by rw [hA, pairs_no (by omega) (by rw [pair_had, hH2]; exact if_pos (by first | exact .inl h130 | exact .inr h142))])).symm
        | exact (chk_trav (trav_rows (by rw [hT, rows_no (by omega) (by rw [rowOk, decide_eq_false (by omega)]; rfl)]))).symm
        | exact (chk_trav (trav_rows (by rw [hT, rows_no (by omega) hbad]))).symm
        | exact (chk_yes (nt h22) (by omega) hcars hstops hpairs (trav_yes (by omega) (by rw [hT, rows_end (by omega)]))).symm
       
       ·rw [h74]
        skip
        refine GL.guardT rfl ?_
        refine GL.fieldAddr I0.mono (o := 1) rfl rfl rfl rfl (by conv => lhs; whnf) ?_
        refine GL.guardT rfl ?_
        refine GL.load I0.mono rfl rfl rfl rfl (by simp) rfl rfl ?_
        refine GL.guardT rfl ?_
        refine GL.fieldAddr I0.mono (o := 2) rfl rfl rfl rfl (by conv => lhs; whnf) ?_
        refine GL.guardT rfl ?_
        refine GL.load I0.mono rfl rfl rfl rfl (by simp) rfl rfl ?_
        refine GL.guardT rfl ?_
        refine GL.call0 I0.mono rfl (Frz.aggc (by exact Frz.pure rfl) (Frz.aggc (by exact Frz.pure rfl) (Frz.aggc (by exact Frz.pure rfl) (Frz.aggn)))) (rwithin_ok _ _ _) rfl rfl (fun _ => rfl) ?_
        refine GL.guardT rfl ?_
        refine GL.un I0.mono rfl ?_
        refine GL.pick I0.mono rfl (by conv => lhs; whnf) ?_
        refine GL.move I0.mono (by conv => lhs; whnf) ?_
        refine GL.splitAt 82 rfl (fun h82 => ?_) (fun h82 => ?_)
        ·rw [h82]
         skip
         refine GL.guardF rfl ?_
         refine GL.guardF rfl ?_
         refine GL.guardF rfl ?_
         refine GL.pick I0.mono rfl (by conv => lhs; whnf) ?_
         refine GL.move I0.mono (by conv => lhs; whnf) ?_
         refine GL.guardF rfl ?_
         refine GL.guardF rfl ?_
         refine GL.guardF rfl ?_
         refine GL.guardF rfl ?_
         refine GL.pick I0.mono rfl (by conv => lhs; whnf) ?_
         refine GL.doneF ?_
         refine goOn ?_
         refine Wp.condT rfl ?_
         refine Wp.seqI ?_
         refine Wp.regI I0.mono ?_
         refine GL.assign I0.mono (by conv => lhs; whnf) ?_
         refine GL.doneF ?_
         refine goOn ?_
         refine Wp.retI ?_
         refine blockX.ret ?_
         refine thenX.ret ?_
         refine thenX.ret ?_
         refine blockX.ret ?_
         refine thenX.ret ?_
         refine RetX.ret ?_
         refine ⟨_, _, _, _, .cons (.tmp rfl) .nil, .frz (.pure rfl), List.nodup_nil, by simp, ?_⟩
         show LV.bool _ = LV.bool _
         congr 1
         first
         | exact (chk_cars (nf h22)).symm
         | exact (chk_many (by omega)).symm
         | exact (chk_trav (trav_len (by omega))).symm
         | exact (chk_car (all_no (k := k) (by omega) (by rw [carRef]; simp_all))).symm
         | exact (chk_stop (all_no (k := k) (by omega) (by rw [stopRef]; simp_all))).symm
         | exact (chk_pairs (by rw [hA, pairs_no (by omega) (by rw [pair_had, hadK_none hj2 (by rw [hadK_step hj2 hH, had1_no (by simp_all)])]; rfl)])).symm
         | exact (chk_pairs (by rw [hA, pairs_no (by omega) (by rw [pair_had, hH2]; exact if_pos (by first | exact .inl h130 | exact .inr h142))])).symm
         | exact (chk_trav (trav_rows (by rw [hT, rows_no (by omega) (by rw [rowOk, decide_eq_false (by omega)]; rfl)]))).symm
         | exact (chk_trav (trav_rows (by rw [hT, rows_no (by omega) hbad]))).symm
         | exact (chk_yes (nt h22) (by omega) hcars hstops hpairs (trav_yes (by omega) (by rw [hT, rows_end (by omega)]))).symm
        
        ·rw [h82]
         skip
         refine GL.guardT rfl ?_
         refine GL.fieldAddr I0.mono (o := 2) rfl rfl rfl rfl (by conv => lhs; whnf) ?_
         refine GL.guardT rfl ?_
         refine GL.load I0.mono rfl rfl rfl rfl (by simp) rfl rfl ?_
         refine GL.guardT rfl ?_
         refine GL.bin I0.mono rfl ?_
         refine GL.pick I0.mono rfl (by conv => lhs; whnf) ?_
         refine GL.move I0.mono (by conv => lhs; whnf) ?_
         refine GL.splitAt 87 rfl (fun h87 => ?_) (fun h87 => ?_)
         ·rw [h87]
          replace h87 := of_decide_eq_true h87
          refine GL.guardF rfl ?_
          refine GL.guardF rfl ?_
          refine GL.guardF rfl ?_
          refine GL.guardF rfl ?_
          refine GL.pick I0.mono rfl (by conv => lhs; whnf) ?_
          refine GL.doneF ?_
          refine goOn ?_
          refine Wp.condT rfl ?_
          refine Wp.seqI ?_
          refine Wp.regI I0.mono ?_
          refine GL.assign I0.mono (by conv => lhs; whnf) ?_
          refine GL.doneF ?_
          refine goOn ?_
          refine Wp.retI ?_
          refine blockX.ret ?_
          refine thenX.ret ?_
          refine thenX.ret ?_
          refine blockX.ret ?_
          refine thenX.ret ?_
          refine RetX.ret ?_
          refine ⟨_, _, _, _, .cons (.tmp rfl) .nil, .frz (.pure rfl), List.nodup_nil, by simp, ?_⟩
          show LV.bool _ = LV.bool _
          congr 1
          first
          | exact (chk_cars (nf h22)).symm
          | exact (chk_many (by omega)).symm
          | exact (chk_trav (trav_len (by omega))).symm
          | exact (chk_car (all_no (k := k) (by omega) (by rw [carRef]; simp_all))).symm
          | exact (chk_stop (all_no (k := k) (by omega) (by rw [stopRef]; simp_all))).symm
          | exact (chk_pairs (by rw [hA, pairs_no (by omega) (by rw [pair_had, hadK_none hj2 (by rw [hadK_step hj2 hH, had1_no (by simp_all)])]; rfl)])).symm
          | exact (chk_pairs (by rw [hA, pairs_no (by omega) (by rw [pair_had, hH2]; exact if_pos (by first | exact .inl h130 | exact .inr h142))])).symm
          | exact (chk_trav (trav_rows (by rw [hT, rows_no (by omega) (by rw [rowOk, decide_eq_false (by omega)]; rfl)]))).symm
          | exact (chk_trav (trav_rows (by rw [hT, rows_no (by omega) hbad]))).symm
          | exact (chk_yes (nt h22) (by omega) hcars hstops hpairs (trav_yes (by omega) (by rw [hT, rows_end (by omega)]))).symm
         
         ·rw [h87]
          replace h87 := of_decide_eq_false h87
          refine GL.guardT rfl ?_
          refine GL.fieldAddr I0.mono (o := 3) rfl rfl rfl rfl (by conv => lhs; whnf) ?_
          refine GL.guardT rfl ?_
          refine GL.load I0.mono rfl rfl rfl rfl (by simp) rfl rfl ?_
          refine GL.guardT rfl ?_
          refine GL.call0 I0.mono rfl (Frz.aggc (by exact Frz.pure rfl) (Frz.aggc (by exact Frz.pure rfl) (Frz.aggc (by exact Frz.pure rfl) (Frz.aggn)))) (rwithin_ok _ _ _) rfl rfl (fun _ => rfl) ?_
          refine GL.guardT rfl ?_
          refine GL.un I0.mono rfl ?_
          refine GL.pick I0.mono rfl (by conv => lhs; whnf) ?_
          refine GL.doneF ?_
          refine goOn ?_
          refine Wp.condI rfl (fun h92 => ?_) (fun h92 => ?_)
          ·skip
           refine Wp.seqI ?_
           refine Wp.regI I0.mono ?_
           refine GL.assign I0.mono (by conv => lhs; whnf) ?_
           refine GL.doneF ?_
           refine goOn ?_
           refine Wp.retI ?_
           refine blockX.ret ?_
           refine thenX.ret ?_
           refine thenX.ret ?_
           refine blockX.ret ?_
           refine thenX.ret ?_
           refine RetX.ret ?_
           refine ⟨_, _, _, _, .cons (.tmp rfl) .nil, .frz (.pure rfl), List.nodup_nil, by simp, ?_⟩
           show LV.bool _ = LV.bool _
           congr 1
           first
           | exact (chk_cars (nf h22)).symm
           | exact (chk_many (by omega)).symm
           | exact (chk_trav (trav_len (by omega))).symm
           | exact (chk_car (all_no (k := k) (by omega) (by rw [carRef]; simp_all))).symm
           | exact (chk_stop (all_no (k := k) (by omega) (by rw [stopRef]; simp_all))).symm
           | exact (chk_pairs (by rw [hA, pairs_no (by omega) (by rw [pair_had, hadK_none hj2 (by rw [hadK_step hj2 hH, had1_no (by simp_all)])]; rfl)])).symm
           | exact (chk_pairs (by rw [hA, pairs_no (by omega) (by rw [pair_had, hH2]; exact if_pos (by first | exact .inl h130 | exact .inr h142))])).symm
           | exact (chk_trav (trav_rows (by rw [hT, rows_no (by omega) (by rw [rowOk, decide_eq_false (by omega)]; rfl)]))).symm
           | exact (chk_trav (trav_rows (by rw [hT, rows_no (by omega) hbad]))).symm
           | exact (chk_yes (nt h22) (by omega) hcars hstops hpairs (trav_yes (by omega) (by rw [hT, rows_end (by omega)]))).symm
          
          ·skip
           refine Wp.skipI ?_
           refine blockX.normal ?_
           refine goOn ?_
           refine Wp.regI I0.mono ?_
           refine GL.addR I0.mono rfl rfl (by omega) ?_
           refine GL.move I0.mono (by conv => lhs; whnf) ?_
           refine GL.doneF ?_
           refine ⟨k + 1, (by dsimp only; omega), _, (LessS.weak (LessS.upd (LessS.upd (LessS.upd (LessS.upd (LessS.nil _) rfl) rfl) rfl) rfl) _), ⟨by omega, fun j h => by
                 by_cases hj : j = k
                 · subst hj; rw [stopRef]; simp_all
                 · exact hS j (by omega)⟩, _, (congrArg (St.mk _) (effM_eq (Has.cons rfl Has.nil)).symm)⟩
      ·replace h67 := of_decide_eq_false h67
       have hstops := all_yes (l := i.stops) (f := stopOk) fun j hj => hS j (by omega)
       refine Wp.exitI ?_
       refine thenX.exit ?_
       refine thenX.exit ?_
       refine blockX.out ?_
       refine goOn ?_
       refine Wp.seqI ?_
       refine Wp.regI I0.mono ?_
       refine GL.makeMap I0.mono ?_
       intro g94
       refine GL.assign I0.mono (by conv => lhs; whnf) ?_
       refine GL.doneF ?_
       refine goOn ?_
       refine Wp.seqI ?_
       refine Wp.seqI ?_
       refine Wp.regI I0.mono ?_
       refine GL.fieldAddr I0.mono (o := 2) rfl rfl rfl rfl (by conv => lhs; whnf) ?_
       refine GL.load I0.mono rfl rfl rfl rfl (by simp) rfl rfl ?_
       refine GL.lenF I0.mono rfl rfl (em_len _ _) ?_
       refine GL.move I0.mono (by conv => lhs; whnf) ?_
       refine GL.doneF ?_
       refine goOn ?_
       refine Wp.blockI ?_
       refine Wp.loopI I0.mono (α := Nat × Nat × List Int) (fun ⟨k, g, hd⟩ st => (k ≤ i.pairs.length ∧ pairsGo i i.pairs [] = pairsGo i (i.pairs.drop k) hd ∧ hd.length ≤ 2 * k) ∧ ∃ m0, st = ⟨(updS (updS (updS (updS (updS (fun _ => LV.undef) 1 (.ref 64 g1 0 0)) 7 (.mref 6016 g)) 96 (.sl (em np i.pairs))) 97 (.int .i64 (i.pairs.length : Int))) 98 (.int .i64 (k : Int))), effM m0 [(64, ⟨g1, false, .var, 4, [ic i]⟩), (6016, ⟨g, false, .mp, 2, em kb hd⟩)]⟩) (fun ⟨k, g, hd⟩ => i.pairs.length - k) ⟨0, _, []⟩ ⟨_, (LessS.weak (LessS.upd (LessS.upd (LessS.upd (LessS.upd (LessS.upd (LessS.nil _) rfl) rfl) rfl) rfl) rfl) _), ⟨Nat.zero_le _, rfl, Nat.zero_le _⟩, _, (congrArg (St.mk _) (effM_eq (Has.cons rfl (Has.cons rfl Has.nil))).symm)⟩ ?_
       rintro ⟨k, g, hd⟩ _ ⟨⟨hk, hA, hl⟩, m0, rfl⟩
       refine Wp.seqI ?_
       refine Wp.regI I0.mono ?_
       refine GL.bin I0.mono rfl ?_
       refine GL.doneF ?_
       refine goOn ?_
       refine Wp.seqI ?_
       refine Wp.condI rfl (fun h99 => ?_) (fun h99 => ?_)
       ·replace h99 := of_decide_eq_true h99
        refine Wp.skipI ?_
        refine goOn ?_
        refine Wp.seqI ?_
        refine Wp.blockI ?_
        refine Wp.seqI ?_
        refine Wp.regI I0.mono ?_
        refine GL.indexAddrF I0.mono (sz := 2) rfl rfl rfl rfl (by omega) (by (rw [em_len]; omega)) (by intro e he; obtain ⟨a, -, rfl⟩ := List.mem_map.1 he; rfl) (by with_reducible exact Int.toNat_natCast _) ?_
        refine GL.loadFW I0.mono (n := 2) rfl rfl (em_get (by omega)) rfl rfl ?_
        refine GL.alloc I0.mono (cs := [LV.int .i64 0, LV.int .i64 0]) rfl rfl ?_
        intro g9
        refine GL.storeW I0.mono (n := 2) rfl rfl rfl rfl rfl rfl rfl (by conv => lhs; whnf) rfl rfl rfl ?_
        refine GL.doneF ?_
        refine goOn ?_
        refine Wp.seqI ?_
        refine Wp.seqI ?_
        refine Wp.regI I0.mono ?_
        refine GL.loadW I0.mono (n := 2) rfl rfl rfl rfl (by simp) rfl rfl rfl ?_
        refine GL.move I0.mono (by conv => lhs; whnf) ?_
        refine GL.doneF ?_
        refine goOn ?_
        refine Wp.blockI ?_
        refine Wp.loopI I0.mono (α := Nat × Nat × List Int) (fun ⟨j, g, hd'⟩ st => (j ≤ 2 ∧ hadK i.stops.length (i.pairs.getD k default) hd j = some hd') ∧ ∃ m0, st = ⟨(updS (updS (updS (updS (updS (updS (updS (updS (fun _ => LV.undef) 1 (.ref 64 g1 0 0)) 7 (.mref 6016 g)) 9 (.ref 576 g9 0 0)) 96 (.sl (em np i.pairs))) 97 (.int .i64 (i.pairs.length : Int))) 98 (.int .i64 (k : Int))) 102 (.agg (np (i.pairs.getD k default)))) 103 (.int .i64 (j : Int))), effM m0 [(64, ⟨g1, false, .var, 4, [ic i]⟩), (6016, ⟨g, false, .mp, 2, em kb hd'⟩), (576, ⟨g9, false, .var, 2, [np (i.pairs.getD k default)]⟩)]⟩) (fun ⟨j, g, hd'⟩ => 2 - j) ⟨0, _, _⟩ ⟨_, (LessS.weak (LessS.upd (LessS.upd (LessS.upd (LessS.upd (LessS.upd (LessS.upd (LessS.upd (LessS.upd (LessS.nil _) rfl) rfl) rfl) rfl) rfl) rfl) rfl) rfl) _), ⟨Nat.zero_le _, rfl⟩, _, (congrArg (St.mk _) (effM_eq (Has.cons rfl (Has.cons rfl (Has.cons rfl Has.nil)))).symm)⟩ ?_
        rintro ⟨j, g, hd'⟩ _ ⟨⟨hj, hH⟩, m0, rfl⟩
        refine Wp.seqI ?_
        refine Wp.regI I0.mono ?_
        refine GL.bin I0.mono rfl ?_
        refine GL.doneF ?_
        refine goOn ?_
        refine Wp.seqI ?_
        refine Wp.condI rfl (fun h104 => ?_) (fun h104 => ?_)
        ·replace h104 := of_decide_eq_true h104
         have hj2 : j < 2 := by omega
         refine Wp.skipI ?_
         refine goOn ?_
         refine Wp.seqI ?_
         refine Wp.blockI ?_
         refine Wp.seqI ?_
         refine Wp.regI I0.mono ?_
         refine GL.indexAr I0.mono (len := 2) (j := j) (v := .int .i64 (atK (i.pairs.getD k default) j)) rfl rfl rfl rfl rfl (by omega) (by omega) (by rfl) (by rcases (show j = 0 ∨ j = 1 by omega) with rfl | rfl <;> rfl) ?_
         refine GL.assign I0.mono (by conv => lhs; whnf) ?_
         refine GL.doneF ?_
         refine goOn ?_
         refine Wp.seqI ?_
         refine Wp.seqI ?_
         refine Wp.regI I0.mono ?_
         refine GL.move I0.mono (by conv => lhs; whnf) ?_
         refine GL.fieldAddr I0.mono (o := 1) rfl rfl rfl rfl (by conv => lhs; whnf) ?_
         refine GL.load I0.mono rfl rfl rfl rfl (by simp) rfl rfl ?_
         refine GL.lenF I0.mono rfl rfl (em_len _ _) ?_
         refine GL.call0 I0.mono rfl (Frz.aggc (by exact Frz.pure rfl) (Frz.aggc (by exact Frz.pure rfl) (Frz.aggc (by exact Frz.pure rfl) (Frz.aggn)))) (rwithin_ok _ _ _) rfl rfl (fun _ => rfl) ?_
         refine GL.un I0.mono rfl ?_
         refine GL.move I0.mono (by conv => lhs; whnf) ?_
         refine GL.splitAt 112 rfl (fun h112 => ?_) (fun h112 => ?_)
         ·rw [h112]
          skip
          refine GL.guardF rfl ?_
          refine GL.guardF rfl ?_
          refine GL.guardF rfl ?_
          refine GL.pick I0.mono rfl (by conv => lhs; whnf) ?_
          refine GL.doneF ?_
          refine goOn ?_
          refine Wp.condT rfl ?_
          refine Wp.seqI ?_
          refine Wp.regI I0.mono ?_
          refine GL.assign I0.mono (by conv => lhs; whnf) ?_
          refine GL.doneF ?_
          refine goOn ?_
          refine Wp.retI ?_
          refine thenX.ret ?_
          refine blockX.ret ?_
          refine thenX.ret ?_
          refine thenX.ret ?_
          refine blockX.ret ?_
          refine thenX.ret ?_
          refine blockX.ret ?_
          refine thenX.ret ?_
          refine thenX.ret ?_
          refine blockX.ret ?_
          refine thenX.ret ?_
          refine RetX.ret ?_
          refine ⟨_, _, _, _, .cons (.tmp rfl) .nil, .frz (.pure rfl), List.nodup_nil, by simp, ?_⟩
          show LV.bool _ = LV.bool _
          congr 1
          first
          | exact (chk_cars (nf h22)).symm
          | exact (chk_many (by omega)).symm
          | exact (chk_trav (trav_len (by omega))).symm
          | exact (chk_car (all_no (k := k) (by omega) (by rw [carRef]; simp_all))).symm
          | exact (chk_stop (all_no (k := k) (by omega) (by rw [stopRef]; simp_all))).symm
          | exact (chk_pairs (by rw [hA, pairs_no (by omega) (by rw [pair_had, hadK_none hj2 (by rw [hadK_step hj2 hH, had1_no (by simp_all)])]; rfl)])).symm
          | exact (chk_pairs (by rw [hA, pairs_no (by omega) (by rw [pair_had, hH2]; exact if_pos (by first | exact .inl h130 | exact .inr h142))])).symm
          | exact (chk_trav (trav_rows (by rw [hT, rows_no (by omega) (by rw [rowOk, decide_eq_false (by omega)]; rfl)]))).symm
          | exact (chk_trav (trav_rows (by rw [hT, rows_no (by omega) hbad]))).symm
          | exact (chk_yes (nt h22) (by omega) hcars hstops hpairs (trav_yes (by omega) (by rw [hT, rows_end (by omega)]))).symm
         
         ·rw [h112]
          skip
          refine GL.guardT rfl ?_
          refine GL.move I0.mono (by conv => lhs; whnf) ?_
          refine GL.guardT rfl ?_
          refine GL.move I0.mono (by conv => lhs; whnf) ?_
          refine GL.guardT rfl ?_
          refine GL.setLook I0.mono (l := hd') rfl rfl rfl rfl rfl rfl rfl rfl rfl rfl ?_
          refine GL.pick I0.mono rfl (by conv => lhs; whnf) ?_
          refine GL.doneF ?_
          refine goOn ?_
          refine Wp.condI rfl (fun h116 => ?_) (fun h116 => ?_)
          ·replace h116 := of_decide_eq_true h116
           refine Wp.seqI ?_
           refine Wp.regI I0.mono ?_
           refine GL.assign I0.mono (by conv => lhs; whnf) ?_
           refine GL.doneF ?_
           refine goOn ?_
           refine Wp.retI ?_
           refine thenX.ret ?_
           refine blockX.ret ?_
           refine thenX.ret ?_
           refine thenX.ret ?_
           refine blockX.ret ?_
           refine thenX.ret ?_
           refine blockX.ret ?_
           refine thenX.ret ?_
           refine thenX.ret ?_
           refine blockX.ret ?_
           refine thenX.ret ?_
           refine RetX.ret ?_
           refine ⟨_, _, _, _, .cons (.tmp rfl) .nil, .frz (.pure rfl), List.nodup_nil, by simp, ?_⟩
           show LV.bool _ = LV.bool _
           congr 1
           first
           | exact (chk_cars (nf h22)).symm
           | exact (chk_many (by omega)).symm
           | exact (chk_trav (trav_len (by omega))).symm
           | exact (chk_car (all_no (k := k) (by omega) (by rw [carRef]; simp_all))).symm
           | exact (chk_stop (all_no (k := k) (by omega) (by rw [stopRef]; simp_all))).symm
           | exact (chk_pairs (by rw [hA, pairs_no (by omega) (by rw [pair_had, hadK_none hj2 (by rw [hadK_step hj2 hH, had1_no (by simp_all)])]; rfl)])).symm
           | exact (chk_pairs (by rw [hA, pairs_no (by omega) (by rw [pair_had, hH2]; exact if_pos (by first | exact .inl h130 | exact .inr h142))])).symm
           | exact (chk_trav (trav_rows (by rw [hT, rows_no (by omega) (by rw [rowOk, decide_eq_false (by omega)]; rfl)]))).symm
           | exact (chk_trav (trav_rows (by rw [hT, rows_no (by omega) hbad]))).symm
           | exact (chk_yes (nt h22) (by omega) hcars hstops hpairs (trav_yes (by omega) (by rw [hT, rows_end (by omega)]))).symm
          
          ·replace h116 := of_decide_eq_false h116
           refine Wp.skipI ?_
           refine goOn ?_
           refine Wp.regI I0.mono ?_
           refine GL.move I0.mono (by conv => lhs; whnf) ?_
           refine GL.move I0.mono (by conv => lhs; whnf) ?_
           refine GL.setPut I0.mono (l := hd') rfl rfl rfl rfl rfl rfl rfl rfl rfl rfl rfl ?_
           refine GL.doneF ?_
           refine blockX.normal ?_
           refine goOn ?_
           refine Wp.regI I0.mono ?_
           refine GL.addR I0.mono rfl rfl (by omega) ?_
           refine GL.move I0.mono (by conv => lhs; whnf) ?_
           refine GL.doneF ?_
           refine ⟨⟨j + 1, _, _⟩, (by dsimp only; omega), _, (LessS.weak (LessS.upd (LessS.upd (LessS.upd (LessS.upd (LessS.upd (LessS.upd (LessS.upd (LessS.upd (LessS.nil _) rfl) rfl) rfl) rfl) rfl) rfl) rfl) rfl) _), ⟨by omega, by rw [hadK_step hj2 hH, had1_yes (by simp_all) (by simp_all)]⟩, _, (congrArg (St.mk _) (effM_eq (Has.cons rfl (Has.cons rfl (Has.cons rfl Has.nil)))).symm)⟩
        ·replace h104 := of_decide_eq_false h104
         obtain rfl : j = 2 := by omega
         have hH2 := hH
         obtain ⟨⟨i1, i2⟩, ⟨i3, i4⟩, i5⟩ := hadK_in hH
         have q0 := all_getD (l := i.stops) (k := ((i.pairs.getD k default).p0 - 1).toNat) (by omega) hstops
         have q2 := (between_iff.1 (Bool.and_eq_true_iff.1 q0).1)
         refine Wp.exitI ?_
         refine thenX.exit ?_
         refine thenX.exit ?_
         refine blockX.out ?_
         refine goOn ?_
         refine Wp.seqI ?_
         refine Wp.regI I0.mono ?_
         refine GL.fieldAddr I0.mono (o := 1) rfl rfl rfl rfl (by conv => lhs; whnf) ?_
         refine GL.load I0.mono rfl rfl rfl rfl (by simp) rfl rfl ?_
         refine GL.indexAddrA I0.mono (sz := 1) (len := 2) rfl rfl rfl rfl rfl rfl (by decide) (by decide) (by conv => lhs; whnf) ?_
         refine GL.load I0.mono rfl rfl rfl rfl (by simp) rfl rfl ?_
         refine GL.subR I0.mono rfl rfl (by omega) ?_
         refine GL.indexAddrF I0.mono (sz := 4) (j := ((i.pairs.getD k default).p0 - 1).toNat) rfl rfl rfl rfl (by omega) (by rw [em_len]; omega) (by intro e he; obtain ⟨a, -, rfl⟩ := List.mem_map.1 he; rfl) rfl ?_
         refine GL.fieldAddrF I0.mono (o := 0) rfl rfl (by conv => lhs; whnf) ?_
         refine GL.loadF I0.mono rfl rfl (em_get (by omega)) rfl ?_
         refine GL.assign I0.mono (by conv => lhs; whnf) ?_
         refine GL.doneF ?_
         refine goOn ?_
         refine Wp.seqI ?_
         refine Wp.regI I0.mono ?_
         refine GL.move I0.mono (by conv => lhs; whnf) ?_
         refine GL.bin I0.mono rfl ?_
         refine GL.move I0.mono (by conv => lhs; whnf) ?_
         refine GL.splitAt 130 rfl (fun h130 => ?_) (fun h130 => ?_)
         ·rw [h130]
          replace h130 := of_decide_eq_true h130
          refine GL.guardF rfl ?_
          refine GL.guardF rfl ?_
          refine GL.guardF rfl ?_
          refine GL.guardF rfl ?_
          refine GL.guardF rfl ?_
          refine GL.guardF rfl ?_
          refine GL.guardF rfl ?_
          refine GL.guardF rfl ?_
          refine GL.guardF rfl ?_
          refine GL.guardF rfl ?_
          refine GL.guardF rfl ?_
          refine GL.pick I0.mono rfl (by conv => lhs; whnf) ?_
          refine GL.doneF ?_
          refine goOn ?_
          refine Wp.condT rfl ?_
          refine Wp.seqI ?_
          refine Wp.regI I0.mono ?_
          refine GL.assign I0.mono (by conv => lhs; whnf) ?_
          refine GL.doneF ?_
          refine goOn ?_
          refine Wp.retI ?_
          refine blockX.ret ?_
          refine thenX.ret ?_
          refine thenX.ret ?_
          refine blockX.ret ?_
          refine thenX.ret ?_
          refine RetX.ret ?_
          refine ⟨_, _, _, _, .cons (.tmp rfl) .nil, .frz (.pure rfl), List.nodup_nil, by simp, ?_⟩
          show LV.bool _ = LV.bool _
          congr 1
          first
          | exact (chk_cars (nf h22)).symm
          | exact (chk_many (by omega)).symm
          | exact (chk_trav (trav_len (by omega))).symm
          | exact (chk_car (all_no (k := k) (by omega) (by rw [carRef]; simp_all))).symm
          | exact (chk_stop (all_no (k := k) (by omega) (by rw [stopRef]; simp_all))).symm
          | exact (chk_pairs (by rw [hA, pairs_no (by omega) (by rw [pair_had, hadK_none hj2 (by rw [hadK_step hj2 hH, had1_no (by simp_all)])]; rfl)])).symm
          | exact (chk_pairs (by rw [hA, pairs_no (by omega) (by rw [pair_had, hH2]; exact if_pos (by exact .inl h130))])).symm
          | exact (chk_trav (trav_rows (by rw [hT, rows_no (by omega) (by rw [rowOk, decide_eq_false (by omega)]; rfl)]))).symm
          | exact (chk_trav (trav_rows (by rw [hT, rows_no (by omega) hbad]))).symm
          | exact (chk_yes (nt h22) (by omega) hcars hstops hpairs (trav_yes (by omega) (by rw [hT, rows_end (by omega)]))).symm
         
         ·rw [h130]
          replace h130 := of_decide_eq_false h130
          refine GL.guardT rfl ?_
          refine GL.fieldAddr I0.mono (o := 1) rfl rfl rfl rfl (by conv => lhs; whnf) ?_
          refine GL.guardT rfl ?_
          refine GL.load I0.mono rfl rfl rfl rfl (by simp) rfl rfl ?_
          refine GL.guardT rfl ?_
          refine GL.indexAddrA I0.mono (sz := 1) (len := 2) rfl rfl rfl rfl rfl rfl (by decide) (by decide) (by conv => lhs; whnf) ?_
          refine GL.guardT rfl ?_
          refine GL.load I0.mono rfl rfl rfl rfl (by simp) rfl rfl ?_
          refine GL.guardT rfl ?_
          refine GL.subR I0.mono rfl rfl (by omega) ?_
          refine GL.guardT rfl ?_
          refine GL.indexAddrF I0.mono (sz := 4) (j := ((i.pairs.getD k default).p1 - 1).toNat) rfl rfl rfl rfl (by omega) (by rw [em_len]; omega) (by intro e he; obtain ⟨a, -, rfl⟩ := List.mem_map.1 he; rfl) rfl ?_
          refine GL.guardT rfl ?_
          refine GL.fieldAddrF I0.mono (o := 0) rfl rfl (by conv => lhs; whnf) ?_
          refine GL.guardT rfl ?_
          refine GL.loadF I0.mono rfl rfl (em_get (by omega)) rfl ?_
          refine GL.guardT rfl ?_
          refine GL.move I0.mono (by conv => lhs; whnf) ?_
          refine GL.guardT rfl ?_
          refine GL.negR I0.mono rfl (by omega) ?_
          refine GL.guardT rfl ?_
          refine GL.bin I0.mono rfl ?_
          refine GL.pick I0.mono rfl (by conv => lhs; whnf) ?_
          refine GL.doneF ?_
          refine goOn ?_
          refine Wp.condI rfl (fun h142 => ?_) (fun h142 => ?_)
          ·replace h142 := bne_true h142
           refine Wp.seqI ?_
           refine Wp.regI I0.mono ?_
           refine GL.assign I0.mono (by conv => lhs; whnf) ?_
           refine GL.doneF ?_
           refine goOn ?_
           refine Wp.retI ?_
           refine blockX.ret ?_
           refine thenX.ret ?_
           refine thenX.ret ?_
           refine blockX.ret ?_
           refine thenX.ret ?_
           refine RetX.ret ?_
           refine ⟨_, _, _, _, .cons (.tmp rfl) .nil, .frz (.pure rfl), List.nodup_nil, by simp, ?_⟩
           show LV.bool _ = LV.bool _
           congr 1
           first
           | exact (chk_cars (nf h22)).symm
           | exact (chk_many (by omega)).symm
           | exact (chk_trav (trav_len (by omega))).symm
           | exact (chk_car (all_no (k := k) (by omega) (by rw [carRef]; simp_all))).symm
           | exact (chk_stop (all_no (k := k) (by omega) (by rw [stopRef]; simp_all))).symm
           | exact (chk_pairs (by rw [hA, pairs_no (by omega) (by rw [pair_had, hadK_none hj2 (by rw [hadK_step hj2 hH, had1_no (by simp_all)])]; rfl)])).symm
           | exact (chk_pairs (by rw [hA, pairs_no (by omega) (by rw [pair_had, hH2]; exact if_pos (by exact .inr h142))])).symm
           | exact (chk_trav (trav_rows (by rw [hT, rows_no (by omega) (by rw [rowOk, decide_eq_false (by omega)]; rfl)]))).symm
           | exact (chk_trav (trav_rows (by rw [hT, rows_no (by omega) hbad]))).symm
           | exact (chk_yes (nt h22) (by omega) hcars hstops hpairs (trav_yes (by omega) (by rw [hT, rows_end (by omega)]))).symm
          
          ·replace h142 := bne_false h142
           refine Wp.skipI ?_
           refine blockX.normal ?_
           refine goOn ?_
           refine Wp.regI I0.mono ?_
           refine GL.addR I0.mono rfl rfl (by omega) ?_
           refine GL.move I0.mono (by conv => lhs; whnf) ?_
           refine GL.doneF ?_
           refine ⟨⟨k + 1, _, _⟩, (by dsimp only; omega), _, (LessS.weak (LessS.upd (LessS.upd (LessS.upd (LessS.upd (LessS.upd (LessS.nil _) rfl) rfl) rfl) rfl) rfl) _), ⟨by omega, by rw [hA, pairs_go (by omega) (by rw [pair_had, hH2]; exact if_neg (by rintro (h | h) <;> first | exact h130 h | exact h h142 | exact h142 h))], by omega⟩, _, (congrArg (St.mk _) (effM_eq (Has.cons rfl (Has.cons rfl Has.nil))).symm)⟩
       ·replace h99 := of_decide_eq_false h99
        have hpairs : pairsGo i i.pairs [] = true := by rw [hA, pairs_end (by omega)]
        refine Wp.exitI ?_
        refine thenX.exit ?_
        refine thenX.exit ?_
        refine blockX.out ?_
        refine goOn ?_
        refine Wp.seqI ?_
        refine Wp.seqI ?_
        refine Wp.regI I0.mono ?_
        refine GL.fieldAddr I0.mono (o := 3) rfl rfl rfl rfl (by conv => lhs; whnf) ?_
        refine GL.load I0.mono rfl rfl rfl rfl (by simp) rfl rfl ?_
        refine GL.lenF I0.mono rfl rfl (em_len _ _) ?_
        refine GL.move I0.mono (by conv => lhs; whnf) ?_
        refine GL.doneF ?_
        refine goOn ?_
        refine Wp.blockI ?_
        refine Wp.loopI I0.mono (α := Nat) (fun k st => (k ≤ i.travel.length ∧ rowsGo (i.stops.length + 1) 0 i.travel = rowsGo (i.stops.length + 1) k (i.travel.drop k)) ∧ ∃ m0, st = ⟨(updS (updS (updS (updS (fun _ => LV.undef) 1 (.ref 64 g1 0 0)) 145 (.sl (em nr i.travel))) 146 (.int .i64 (i.travel.length : Int))) 147 (.int .i64 (k : Int))), effM m0 [(64, ⟨g1, false, .var, 4, [ic i]⟩)]⟩) (fun k => i.travel.length - k) 0 ⟨_, (LessS.weak (LessS.upd (LessS.upd (LessS.upd (LessS.upd (LessS.nil _) rfl) rfl) rfl) rfl) _), ⟨Nat.zero_le _, rfl⟩, _, (congrArg (St.mk _) (effM_eq (Has.cons rfl Has.nil)).symm)⟩ ?_
        rintro k _ ⟨⟨hk, hT⟩, m0, rfl⟩
        refine Wp.seqI ?_
        refine Wp.regI I0.mono ?_
        refine GL.bin I0.mono rfl ?_
        refine GL.doneF ?_
        refine goOn ?_
        refine Wp.seqI ?_
        refine Wp.condI rfl (fun h148 => ?_) (fun h148 => ?_)
        ·replace h148 := of_decide_eq_true h148
         have hrow := hs.row k
         refine Wp.skipI ?_
         refine goOn ?_
         refine Wp.seqI ?_
         refine Wp.blockI ?_
         refine Wp.seqI ?_
         refine Wp.regI I0.mono ?_
         refine GL.move I0.mono (by conv => lhs; whnf) ?_
         refine GL.indexAddrF I0.mono (sz := 1) rfl rfl rfl rfl (by omega) (by (rw [em_len]; omega)) (by intro e he; obtain ⟨a, -, rfl⟩ := List.mem_map.1 he; rfl) (by with_reducible exact Int.toNat_natCast _) ?_
         refine GL.loadF I0.mono rfl rfl (em_get (by omega)) rfl ?_
         refine GL.assign I0.mono (by conv => lhs; whnf) ?_
         refine GL.assign I0.mono (by conv => lhs; whnf) ?_
         refine GL.doneF ?_
         refine goOn ?_
         refine Wp.seqI ?_
         refine Wp.seqI ?_
         refine Wp.regI I0.mono ?_
         refine GL.move I0.mono (by conv => lhs; whnf) ?_
         refine GL.lenF I0.mono rfl rfl (em_len _ _) ?_
         refine GL.fieldAddr I0.mono (o := 3) rfl rfl rfl rfl (by conv => lhs; whnf) ?_
         refine GL.load I0.mono rfl rfl rfl rfl (by simp) rfl rfl ?_
         refine GL.lenF I0.mono rfl rfl (em_len _ _) ?_
         refine GL.bin I0.mono rfl ?_
         refine GL.doneF ?_
         refine goOn ?_
         refine Wp.condI rfl (fun h157 => ?_) (fun h157 => ?_)
         ·replace h157 := bne_true h157
          refine Wp.seqI ?_
          refine Wp.regI I0.mono ?_
          refine GL.assign I0.mono (by conv => lhs; whnf) ?_
          refine GL.doneF ?_
          refine goOn ?_
          refine Wp.retI ?_
          refine thenX.ret ?_
          refine blockX.ret ?_
          refine thenX.ret ?_
          refine thenX.ret ?_
          refine blockX.ret ?_
          refine thenX.ret ?_
          refine RetX.ret ?_
          refine ⟨_, _, _, _, .cons (.tmp rfl) .nil, .frz (.pure rfl), List.nodup_nil, by simp, ?_⟩
          show LV.bool _ = LV.bool _
          congr 1
          first
          | exact (chk_cars (nf h22)).symm
          | exact (chk_many (by omega)).symm
          | exact (chk_trav (trav_len (by omega))).symm
          | exact (chk_car (all_no (k := k) (by omega) (by rw [carRef]; simp_all))).symm
          | exact (chk_stop (all_no (k := k) (by omega) (by rw [stopRef]; simp_all))).symm
          | exact (chk_pairs (by rw [hA, pairs_no (by omega) (by rw [pair_had, hadK_none hj2 (by rw [hadK_step hj2 hH, had1_no (by simp_all)])]; rfl)])).symm
          | exact (chk_pairs (by rw [hA, pairs_no (by omega) (by rw [pair_had, hH2]; exact if_pos (by first | exact .inl h130 | exact .inr h142))])).symm
          | exact (chk_trav (trav_rows (by rw [hT, rows_no (by omega) (by rw [rowOk, decide_eq_false (by omega)]; rfl)]))).symm
          | exact (chk_trav (trav_rows (by rw [hT, rows_no (by omega) hbad]))).symm
          | exact (chk_yes (nt h22) (by omega) hcars hstops hpairs (trav_yes (by omega) (by rw [hT, rows_end (by omega)]))).symm
         
         ·replace h157 := bne_false h157
          refine Wp.skipI ?_
          refine goOn ?_
          refine Wp.seqI ?_
          refine Wp.regI I0.mono ?_
          refine GL.move I0.mono (by conv => lhs; whnf) ?_
          refine GL.lenF I0.mono rfl rfl (em_len _ _) ?_
          refine GL.move I0.mono (by conv => lhs; whnf) ?_
          refine GL.doneF ?_
          refine goOn ?_
          refine Wp.blockI ?_
          refine Wp.loopI I0.mono (α := Nat) (fun j st => (j ≤ (i.travel.getD k default).length ∧ ∀ y, y < j → between ((i.travel.getD k default).getD y default) 0 1000 = true ∧ (k = y → (i.travel.getD k default).getD y default = 0)) ∧ ∃ m0, st = ⟨(updS (updS (updS (updS (updS (updS (updS (updS (fun _ => LV.undef) 1 (.ref 64 g1 0 0)) 13 (.int .i64 (k : Int))) 145 (.sl (em nr i.travel))) 146 (.int .i64 (i.travel.length : Int))) 147 (.int .i64 (k : Int))) 158 (.sl (em ni (i.travel.getD k default)))) 159 (.int .i64 ((i.travel.getD k default).length : Int))) 160 (.int .i64 (j : Int))), effM m0 [(64, ⟨g1, false, .var, 4, [ic i]⟩)]⟩) (fun j => (i.travel.getD k default).length - j) 0 ⟨_, (LessS.weak (LessS.upd (LessS.upd (LessS.upd (LessS.upd (LessS.upd (LessS.upd (LessS.upd (LessS.upd (LessS.nil _) rfl) rfl) rfl) rfl) rfl) rfl) rfl) rfl) _), ⟨Nat.zero_le _, fun y h => by omega⟩, _, (congrArg (St.mk _) (effM_eq (Has.cons rfl Has.nil)).symm)⟩ ?_
          rintro j _ ⟨⟨hj, hB⟩, m0, rfl⟩
          have hrow := hs.row k
          refine Wp.seqI ?_
          refine Wp.regI I0.mono ?_
          refine GL.bin I0.mono rfl ?_
          refine GL.doneF ?_
          refine goOn ?_
          refine Wp.seqI ?_
          refine Wp.condI rfl (fun h161 => ?_) (fun h161 => ?_)
          ·replace h161 := of_decide_eq_true h161
           refine Wp.skipI ?_
           refine goOn ?_
           refine Wp.seqI ?_
           refine Wp.blockI ?_
           refine Wp.seqI ?_
           refine Wp.regI I0.mono ?_
           refine GL.move I0.mono (by conv => lhs; whnf) ?_
           refine GL.indexAddrF I0.mono (sz := 1) rfl rfl rfl rfl (by omega) (by (rw [em_len]; omega)) (by intro e he; obtain ⟨a, -, rfl⟩ := List.mem_map.1 he; rfl) (by with_reducible exact Int.toNat_natCast _) ?_
           refine GL.loadF I0.mono rfl rfl (em_get (by omega)) rfl ?_
           refine GL.assign I0.mono (by conv => lhs; whnf) ?_
           refine GL.assign I0.mono (by conv => lhs; whnf) ?_
           refine GL.doneF ?_
           refine goOn ?_
           refine Wp.seqI ?_
           refine Wp.regI I0.mono ?_
           refine GL.move I0.mono (by conv => lhs; whnf) ?_
           refine GL.call0 I0.mono rfl (Frz.aggc (by exact Frz.pure rfl) (Frz.aggc (by exact Frz.pure rfl) (Frz.aggc (by exact Frz.pure rfl) (Frz.aggn)))) (rwithin_ok _ _ _) rfl rfl (fun _ => rfl) ?_
           refine GL.un I0.mono rfl ?_
           refine GL.move I0.mono (by conv => lhs; whnf) ?_
           refine GL.splitAt 168 rfl (fun h168 => ?_) (fun h168 => ?_)
           ·rw [h168]
            have hbad : rowOk (i.stops.length + 1) k (i.travel.getD k default) = false := by
              rw [← Bool.not_eq_true]
              intro hr
              simp only [rowOk, Bool.and_eq_true, decide_eq_true_eq] at hr
              have hb := all_getD (l := (i.travel.getD k default)) (k := j) (by omega) hr.2.2
              by_cases hkj : (k : Int) = (j : Int)
              · have : k = j := by omega
                subst this
                simp_all
              · simp_all
            refine GL.guardF rfl ?_
            refine GL.guardF rfl ?_
            refine GL.guardF rfl ?_
            refine GL.guardF rfl ?_
            refine GL.guardF rfl ?_
            refine GL.guardF rfl ?_
            refine GL.guardF rfl ?_
            refine GL.pick I0.mono rfl (by conv => lhs; whnf) ?_
            refine GL.doneF ?_
            refine goOn ?_
            refine Wp.condT rfl ?_
            refine Wp.seqI ?_
            refine Wp.regI I0.mono ?_
            refine GL.assign I0.mono (by conv => lhs; whnf) ?_
            refine GL.doneF ?_
            refine goOn ?_
            refine Wp.retI ?_
            refine blockX.ret ?_
            refine thenX.ret ?_
            refine thenX.ret ?_
            refine blockX.ret ?_
            refine blockX.ret ?_
            refine thenX.ret ?_
            refine thenX.ret ?_
            refine blockX.ret ?_
            refine thenX.ret ?_
            refine RetX.ret ?_
            refine ⟨_, _, _, _, .cons (.tmp rfl) .nil, .frz (.pure rfl), List.nodup_nil, by simp, ?_⟩
            show LV.bool _ = LV.bool _
            congr 1
            first
            | exact (chk_cars (nf h22)).symm
            | exact (chk_many (by omega)).symm
            | exact (chk_trav (trav_len (by omega))).symm
            | exact (chk_car (all_no (k := k) (by omega) (by rw [carRef]; simp_all))).symm
            | exact (chk_stop (all_no (k := k) (by omega) (by rw [stopRef]; simp_all))).symm
            | exact (chk_pairs (by rw [hA, pairs_no (by omega) (by rw [pair_had, hadK_none hj2 (by rw [hadK_step hj2 hH, had1_no (by simp_all)])]; rfl)])).symm
            | exact (chk_pairs (by rw [hA, pairs_no (by omega) (by rw [pair_had, hH2]; exact if_pos (by first | exact .inl h130 | exact .inr h142))])).symm
            | exact (chk_trav (trav_rows (by rw [hT, rows_no (by omega) (by rw [rowOk, decide_eq_false (by omega)]; rfl)]))).symm
            | exact (chk_trav (trav_rows (by rw [hT, rows_no (by omega) hbad]))).symm
            | exact (chk_yes (nt h22) (by omega) hcars hstops hpairs (trav_yes (by omega) (by rw [hT, rows_end (by omega)]))).symm
           
           ·rw [h168]
            skip
            refine GL.guardT rfl ?_
            refine GL.move I0.mono (by conv => lhs; whnf) ?_
            refine GL.guardT rfl ?_
            refine GL.move I0.mono (by conv => lhs; whnf) ?_
            refine GL.guardT rfl ?_
            refine GL.bin I0.mono rfl ?_
            refine GL.guardT rfl ?_
            refine GL.move I0.mono (by conv => lhs; whnf) ?_
            refine GL.splitAt 172 rfl (fun h172 => ?_) (fun h172 => ?_)
            ·rw [h172]
             replace h172 := of_decide_eq_true h172
             refine GL.guardT rfl ?_
             refine GL.move I0.mono (by conv => lhs; whnf) ?_
             refine GL.guardT rfl ?_
             refine GL.bin I0.mono rfl ?_
             refine GL.guardT rfl ?_
             refine GL.pick I0.mono rfl (by conv => lhs; whnf) ?_
             refine GL.pick I0.mono rfl (by conv => lhs; whnf) ?_
             refine GL.doneF ?_
             refine goOn ?_
             refine Wp.condI rfl (fun h176 => ?_) (fun h176 => ?_)
             ·replace h176 := bne_true h176
              have hbad : rowOk (i.stops.length + 1) k (i.travel.getD k default) = false := by
                rw [← Bool.not_eq_true]
                intro hr
                simp only [rowOk, Bool.and_eq_true, decide_eq_true_eq] at hr
                have hb := all_getD (l := (i.travel.getD k default)) (k := j) (by omega) hr.2.2
                by_cases hkj : (k : Int) = (j : Int)
                · have : k = j := by omega
                  subst this
                  simp_all
                · simp_all
              refine Wp.seqI ?_
              refine Wp.regI I0.mono ?_
              refine GL.assign I0.mono (by conv => lhs; whnf) ?_
              refine GL.doneF ?_
              refine goOn ?_
              refine Wp.retI ?_
              refine blockX.ret ?_
              refine thenX.ret ?_
              refine thenX.ret ?_
              refine blockX.ret ?_
              refine blockX.ret ?_
              refine thenX.ret ?_
              refine thenX.ret ?_
              refine blockX.ret ?_
              refine thenX.ret ?_
              refine RetX.ret ?_
              refine ⟨_, _, _, _, .cons (.tmp rfl) .nil, .frz (.pure rfl), List.nodup_nil, by simp, ?_⟩
              show LV.bool _ = LV.bool _
              congr 1
              first
              | exact (chk_cars (nf h22)).symm
              | exact (chk_many (by omega)).symm
              | exact (chk_trav (trav_len (by omega))).symm
              | exact (chk_car (all_no (k := k) (by omega) (by rw [carRef]; simp_all))).symm
              | exact (chk_stop (all_no (k := k) (by omega) (by rw [stopRef]; simp_all))).symm
              | exact (chk_pairs (by rw [hA, pairs_no (by omega) (by rw [pair_had, hadK_none hj2 (by rw [hadK_step hj2 hH, had1_no (by simp_all)])]; rfl)])).symm
              | exact (chk_pairs (by rw [hA, pairs_no (by omega) (by rw [pair_had, hH2]; exact if_pos (by first | exact .inl h130 | exact .inr h142))])).symm
              | exact (chk_trav (trav_rows (by rw [hT, rows_no (by omega) (by rw [rowOk, decide_eq_false (by omega)]; rfl)]))).symm
              | exact (chk_trav (trav_rows (by rw [hT, rows_no (by omega) hbad]))).symm
              | exact (chk_yes (nt h22) (by omega) hcars hstops hpairs (trav_yes (by omega) (by rw [hT, rows_end (by omega)]))).symm
             
             ·replace h176 := bne_false h176
              refine Wp.skipI ?_
              refine blockX.normal ?_
              refine goOn ?_
              refine Wp.regI I0.mono ?_
              refine GL.addR I0.mono rfl rfl (by omega) ?_
              refine GL.move I0.mono (by conv => lhs; whnf) ?_
              refine GL.doneF ?_
              refine ⟨j + 1, (by dsimp only; omega), _, (LessS.weak (LessS.upd (LessS.upd (LessS.upd (LessS.upd (LessS.upd (LessS.upd (LessS.upd (LessS.upd (LessS.nil _) rfl) rfl) rfl) rfl) rfl) rfl) rfl) rfl) _), ⟨by omega, fun y h => by
                    by_cases hy : y = j
                    · subst hy
                      refine ⟨by simp_all, fun e => ?_⟩
                      subst e
                      simp_all
                    · exact hB y (by omega)⟩, _, (congrArg (St.mk _) (effM_eq (Has.cons rfl Has.nil)).symm)⟩
            ·rw [h172]
             replace h172 := of_decide_eq_false h172
             refine GL.guardF rfl ?_
             refine GL.guardF rfl ?_
             refine GL.guardT rfl ?_
             refine GL.pick I0.mono rfl (by conv => lhs; whnf) ?_
             refine GL.pick I0.mono rfl (by conv => lhs; whnf) ?_
             refine GL.doneF ?_
             refine goOn ?_
             refine Wp.condF rfl ?_
             refine Wp.skipI ?_
             refine blockX.normal ?_
             refine goOn ?_
             refine Wp.regI I0.mono ?_
             refine GL.addR I0.mono rfl rfl (by omega) ?_
             refine GL.move I0.mono (by conv => lhs; whnf) ?_
             refine GL.doneF ?_
             refine ⟨j + 1, (by dsimp only; omega), _, (LessS.weak (LessS.upd (LessS.upd (LessS.upd (LessS.upd (LessS.upd (LessS.upd (LessS.upd (LessS.upd (LessS.nil _) rfl) rfl) rfl) rfl) rfl) rfl) rfl) rfl) _), ⟨by omega, fun y h => by
                   by_cases hy : y = j
                   · subst hy
                     refine ⟨by simp_all, fun e => ?_⟩
                     subst e
                     simp_all
                   · exact hB y (by omega)⟩, _, (congrArg (St.mk _) (effM_eq (Has.cons rfl Has.nil)).symm)⟩
          ·replace h161 := of_decide_eq_false h161
           refine Wp.exitI ?_
           refine thenX.exit ?_
           refine thenX.exit ?_
           refine blockX.out ?_
           refine blockX.normal ?_
           refine goOn ?_
           refine Wp.regI I0.mono ?_
           refine GL.addR I0.mono rfl rfl (by omega) ?_
           refine GL.move I0.mono (by conv => lhs; whnf) ?_
           refine GL.doneF ?_
           refine ⟨k + 1, (by dsimp only; omega), _, (LessS.weak (LessS.upd (LessS.upd (LessS.upd (LessS.upd (LessS.nil _) rfl) rfl) rfl) rfl) _), ⟨by omega, by rw [hT, rows_go (by omega) (by rw [rowOk, decide_eq_true (by omega), decide_eq_true ((hB k (by omega)).2 rfl), all_yes fun y hy => (hB y (by omega)).1]; rfl)]⟩, _, (congrArg (St.mk _) (effM_eq (Has.cons rfl Has.nil)).symm)⟩
        ·replace h148 := of_decide_eq_false h148
         refine Wp.exitI ?_
         refine thenX.exit ?_
         refine thenX.exit ?_
         refine blockX.out ?_
         refine goOn ?_
         refine Wp.seqI ?_
         refine Wp.regI I0.mono ?_
         refine GL.assign I0.mono (by conv => lhs; whnf) ?_
         refine GL.doneF ?_
         refine goOn ?_
         refine Wp.retI ?_
         refine RetX.ret ?_
         refine ⟨_, _, _, _, .cons (.tmp rfl) .nil, .frz (.pure rfl), List.nodup_nil, by simp, ?_⟩
         show LV.bool _ = LV.bool _
         congr 1
         first
         | exact (chk_cars (nf h22)).symm
         | exact (chk_many (by omega)).symm
         | exact (chk_trav (trav_len (by omega))).symm
         | exact (chk_car (all_no (k := k) (by omega) (by rw [carRef]; simp_all))).symm
         | exact (chk_stop (all_no (k := k) (by omega) (by rw [stopRef]; simp_all))).symm
         | exact (chk_pairs (by rw [hA, pairs_no (by omega) (by rw [pair_had, hadK_none hj2 (by rw [hadK_step hj2 hH, had1_no (by simp_all)])]; rfl)])).symm
         | exact (chk_pairs (by rw [hA, pairs_no (by omega) (by rw [pair_had, hH2]; exact if_pos (by first | exact .inl h130 | exact .inr h142))])).symm
         | exact (chk_trav (trav_rows (by rw [hT, rows_no (by omega) (by rw [rowOk, decide_eq_false (by omega)]; rfl)]))).symm
         | exact (chk_trav (trav_rows (by rw [hT, rows_no (by omega) hbad]))).symm
         | exact (chk_yes (nt h22) (by omega) hcars hstops hpairs (trav_yes (by omega) (by rw [hT, rows_end (by omega)]))).symm
        

end Go.Proofs.Ytffnlhjdlhpmjaa
