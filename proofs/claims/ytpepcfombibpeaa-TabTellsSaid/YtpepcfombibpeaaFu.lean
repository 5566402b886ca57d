/- The small functions of the tables of the reference, walked. -/
import Derived.Test.YtpepcfombibpeaaFe
import Derived.Test.YtpepcfombibpeaaFo
import Derived.Test.YtpepcfombibpeaaMvC
import Derived.KernelRfl
set_option linter.unusedVariables false
set_option linter.unusedSimpArgs false
namespace Go.Proofs.Ytpepcfombibpeaa
open Go.Proofs Mv



theorem isT0_between (i : Inst) (c : Int) : isT i c 0 = between c 0 ((i.cars.length : Int) - 1) := by
  rw [Bool.eq_iff_iff]
  unfold isT between
  simp only [Bool.and_eq_true, decide_eq_true_eq]
  omega
theorem car_in {i : Inst} {c : Int} (h : between c 0 ((i.cars.length : Int) - 1) = true) : 0 ≤ c ∧ c < i.cars.length := by
  unfold between at h
  simp only [Bool.and_eq_true, decide_eq_true_eq] at h
  omega
theorem stop_in {i : Inst} {s : Int} (h : between s 1 (i.stops.length : Int) = true) : 1 ≤ s ∧ s ≤ i.stops.length := by
  unfold between at h
  simp only [Bool.and_eq_true, decide_eq_true_eq] at h
  omega
theorem stop_un {i : Inst} {s : Int} (h : 1 ≤ s ∧ s ≤ i.stops.length) : between s 1 (i.stops.length : Int) = true := by
  unfold between
  simp only [Bool.and_eq_true, decide_eq_true_eq]
  omega
theorem car_un {i : Inst} {c : Int} (h : 0 ≤ c ∧ c < i.cars.length) : between c 0 ((i.cars.length : Int) - 1) = true := by
  unfold between
  simp only [Bool.and_eq_true, decide_eq_true_eq]
  omega

set_option maxRecDepth 100000 in
set_option maxHeartbeats 4000000 in
theorem rdigit_ok (n : Int) (h0 : 1 ≤ n) (hn : n ≤ 1000000) : CallsV Try.prog 82 [.int .i64 n] (u32 (digit n)) := by
  refine CallsR.intro (I0.sound _) mix Try.func82 rfl rfl (by simp [Try.f82]) (by kernel_rfl) (nb := 0) ?_
  unfold Try.f82
  refine Wp.seqI ?_
  refine Wp.regI I0.mono ?_
  refine GL.assign I0.mono (by conv => lhs; whnf) ?_
  refine GL.doneF ?_
  refine goOn ?_
  refine Wp.seqI ?_
  refine Wp.regI I0.mono ?_
  refine GL.move I0.mono (by conv => lhs; whnf) ?_
  refine GL.conv I0.mono rfl rfl ?_
  refine GL.bin I0.mono (shl_one n h0 hn) ?_
  refine GL.assign I0.mono (by conv => lhs; whnf) ?_
  refine GL.doneF ?_
  refine goOn ?_
  refine Wp.retI ?_
  refine RetX.ret ?_
  refine ⟨_, _, _, _, .cons (.tmp rfl) .nil, .frz (.pure rfl), List.nodup_nil, by simp, ?_⟩
  rfl

set_option maxRecDepth 100000 in
set_option maxHeartbeats 4000000 in
theorem rbegin_ok (i : Inst) (hs : i.Short) (c : Int) : CallsV Try.prog 46 [ei i, .int .i64 c] (.agg (nh (beginT i c))) := by
  refine CallsR.intro (I0.sound _) mix Try.func46 rfl rfl (by simp [Try.f46]) (by kernel_rfl) (nb := 0) ?_
  unfold Try.f46
  refine Wp.seqI ?_
  refine Wp.regI I0.mono ?_
  refine GL.box I0.mono (by conv => lhs; whnf) rfl (n := 4) rfl rfl ?_
  intro g2
  refine GL.alloc I0.mono (cs := [LV.bool false, LV.int .i64 0, LV.int .i64 0, LV.int .i64 0, LV.int .u32 0, LV.int .u32 0, LV.int .i64 0]) rfl rfl ?_
  intro g4
  refine GL.doneF ?_
  refine goOn ?_
  refine Wp.seqI ?_
  refine Wp.seqI ?_
  refine Wp.regI I0.mono ?_
  refine GL.loadW I0.mono (n := 4) rfl rfl rfl rfl (by simp) rfl rfl rfl ?_
  refine GL.move I0.mono (by conv => lhs; whnf) ?_
  refine GL.call0 I0.mono rfl (Frz.aggc (by exact Frz.pures rfl) (Frz.aggc (by exact Frz.pure rfl) (Frz.aggn))) (rcar_ok i hs _) rfl rfl (fun _ => rfl) ?_
  refine GL.un I0.mono rfl ?_
  refine GL.doneF ?_
  refine goOn ?_
  refine Wp.condI rfl (fun h8 => ?_) (fun h8 => ?_)
  ·skip
   refine Wp.seqI ?_
   refine Wp.regI I0.mono ?_
   refine GL.buildS I0.mono (z := [LV.bool false, LV.int .i64 0, LV.int .i64 0, LV.int .i64 0, LV.int .u32 0, LV.int .u32 0, LV.int .i64 0]) (cs := [_, _, _, _, _, _, _]) (n := 7) rfl rfl rfl (EvS.nil) rfl rfl ?_
   refine GL.storeW I0.mono (n := 7) rfl rfl rfl rfl rfl rfl rfl (by conv => lhs; whnf) rfl rfl rfl ?_
   refine GL.doneF ?_
   refine goOn ?_
   refine Wp.retI ?_
   refine thenX.ret ?_
   refine RetX.ret ?_
   refine ⟨_, _, _, _, .cons (.cellA (n := 7) rfl rfl rfl (by simp) rfl rfl rfl (Nat.le_of_ble_eq_true rfl)) .nil, .frz ((Frz.aggc (by exact Frz.pure rfl) (Frz.aggc (by exact Frz.pure rfl) (Frz.aggc (by exact Frz.pure rfl) (Frz.aggc (by exact Frz.pure rfl) (Frz.aggc (by exact Frz.pure rfl) (Frz.aggc (by exact Frz.pure rfl) (Frz.aggc (by exact Frz.pure rfl) Frz.aggn)))))))), List.nodup_nil, by simp, ?_⟩
   (rw [beginT, isT0_between, if_neg (by rw [nbf h8]; decide)]; rfl)
  ·skip
   have hq := car_in (nbt h8)
   have hc := hs.cars
   unfold Short at hc
   refine Wp.skipI ?_
   refine goOn ?_
   refine Wp.seqI ?_
   refine Wp.regI I0.mono ?_
   refine GL.fieldAddr I0.mono (o := 0) rfl rfl rfl rfl (by conv => lhs; whnf) ?_
   refine GL.load I0.mono rfl rfl rfl rfl (by simp) rfl rfl ?_
   refine GL.move I0.mono (by conv => lhs; whnf) ?_
   refine GL.indexAddrF I0.mono (sz := 3) rfl rfl rfl rfl (by omega) (by (rw [em_len]; omega)) (by intro e he; obtain ⟨a, -, rfl⟩ := List.mem_map.1 he; rfl) (by rfl) ?_
   refine GL.fieldAddrF I0.mono (o := 1) rfl rfl (by conv => lhs; whnf) ?_
   refine GL.loadF I0.mono rfl rfl (em_get (by omega)) rfl ?_
   refine GL.buildS I0.mono (z := [LV.bool false, LV.int .i64 0, LV.int .i64 0, LV.int .i64 0, LV.int .u32 0, LV.int .u32 0, LV.int .i64 0]) (cs := [_, _, _, _, _, _, _]) (n := 7) rfl rfl rfl (EvS.cons (by conv => lhs; whnf) (EvS.cons (by conv => lhs; whnf) (EvS.nil))) rfl rfl ?_
   refine GL.storeW I0.mono (n := 7) rfl rfl rfl rfl rfl rfl rfl (by conv => lhs; whnf) rfl rfl rfl ?_
   refine GL.doneF ?_
   refine goOn ?_
   refine Wp.retI ?_
   refine RetX.ret ?_
   refine ⟨_, _, _, _, .cons (.cellA (n := 7) rfl rfl rfl (by simp) rfl rfl rfl (Nat.le_of_ble_eq_true rfl)) .nil, .frz ((Frz.aggc (by exact Frz.pure rfl) (Frz.aggc (by exact Frz.pure rfl) (Frz.aggc (by exact Frz.pure rfl) (Frz.aggc (by exact Frz.pure rfl) (Frz.aggc (by exact Frz.pure rfl) (Frz.aggc (by exact Frz.pure rfl) (Frz.aggc (by exact Frz.pure rfl) Frz.aggn)))))))), List.nodup_nil, by simp, ?_⟩
   (rw [beginT, isT0_between, if_pos (nbt h8)]; rfl)

set_option maxRecDepth 100000 in
set_option maxHeartbeats 4000000 in
theorem rend_ok (i : Inst) (hs : i.Short) (c : Int) : CallsV Try.prog 47 [ei i, .int .i64 c] (.agg (nl (endT i c))) := by
  refine CallsR.intro (I0.sound _) mix Try.func47 rfl rfl (by simp [Try.f47]) (by kernel_rfl) (nb := 0) ?_
  unfold Try.f47
  refine Wp.seqI ?_
  refine Wp.regI I0.mono ?_
  refine GL.box I0.mono (by conv => lhs; whnf) rfl (n := 4) rfl rfl ?_
  intro g2
  refine GL.alloc I0.mono (cs := [LV.bool false, LV.int .i64 0, LV.int .i64 0, LV.int .i64 0, LV.int .i64 0, LV.int .u32 0, LV.int .u32 0, LV.int .i64 0]) rfl rfl ?_
  intro g4
  refine GL.doneF ?_
  refine goOn ?_
  refine Wp.seqI ?_
  refine Wp.seqI ?_
  refine Wp.regI I0.mono ?_
  refine GL.loadW I0.mono (n := 4) rfl rfl rfl rfl (by simp) rfl rfl rfl ?_
  refine GL.move I0.mono (by conv => lhs; whnf) ?_
  refine GL.call0 I0.mono rfl (Frz.aggc (by exact Frz.pures rfl) (Frz.aggc (by exact Frz.pure rfl) (Frz.aggn))) (rcar_ok i hs _) rfl rfl (fun _ => rfl) ?_
  refine GL.un I0.mono rfl ?_
  refine GL.doneF ?_
  refine goOn ?_
  refine Wp.condI rfl (fun h8 => ?_) (fun h8 => ?_)
  ·skip
   refine Wp.seqI ?_
   refine Wp.regI I0.mono ?_
   refine GL.buildS I0.mono (z := [LV.bool false, LV.int .i64 0, LV.int .i64 0, LV.int .i64 0, LV.int .i64 0, LV.int .u32 0, LV.int .u32 0, LV.int .i64 0]) (cs := [_, _, _, _, _, _, _, _]) (n := 8) rfl rfl rfl (EvS.nil) rfl rfl ?_
   refine GL.storeW I0.mono (n := 8) rfl rfl rfl rfl rfl rfl rfl (by conv => lhs; whnf) rfl rfl rfl ?_
   refine GL.doneF ?_
   refine goOn ?_
   refine Wp.retI ?_
   refine thenX.ret ?_
   refine RetX.ret ?_
   refine ⟨_, _, _, _, .cons (.cellA (n := 8) rfl rfl rfl (by simp) rfl rfl rfl (Nat.le_of_ble_eq_true rfl)) .nil, .frz ((Frz.aggc (by exact Frz.pure rfl) (Frz.aggc (by exact Frz.pure rfl) (Frz.aggc (by exact Frz.pure rfl) (Frz.aggc (by exact Frz.pure rfl) (Frz.aggc (by exact Frz.pure rfl) (Frz.aggc (by exact Frz.pure rfl) (Frz.aggc (by exact Frz.pure rfl) (Frz.aggc (by exact Frz.pure rfl) Frz.aggn))))))))), List.nodup_nil, by simp, ?_⟩
   (rw [endT, isT0_between, if_neg (by rw [nbf h8]; decide)]; rfl)
  ·skip
   have hq := car_in (nbt h8)
   have hc := hs.cars
   unfold Short at hc
   refine Wp.skipI ?_
   refine goOn ?_
   refine Wp.seqI ?_
   refine Wp.regI I0.mono ?_
   refine GL.fieldAddr I0.mono (o := 0) rfl rfl rfl rfl (by conv => lhs; whnf) ?_
   refine GL.load I0.mono rfl rfl rfl rfl (by simp) rfl rfl ?_
   refine GL.move I0.mono (by conv => lhs; whnf) ?_
   refine GL.indexAddrF I0.mono (sz := 3) rfl rfl rfl rfl (by omega) (by (rw [em_len]; omega)) (by intro e he; obtain ⟨a, -, rfl⟩ := List.mem_map.1 he; rfl) (by rfl) ?_
   refine GL.fieldAddrF I0.mono (o := 2) rfl rfl (by conv => lhs; whnf) ?_
   refine GL.loadF I0.mono rfl rfl (em_get (by omega)) rfl ?_
   refine GL.buildS I0.mono (z := [LV.bool false, LV.int .i64 0, LV.int .i64 0, LV.int .i64 0, LV.int .i64 0, LV.int .u32 0, LV.int .u32 0, LV.int .i64 0]) (cs := [_, _, _, _, _, _, _, _]) (n := 8) rfl rfl rfl (EvS.cons (by conv => lhs; whnf) (EvS.cons (by conv => lhs; whnf) (EvS.nil))) rfl rfl ?_
   refine GL.storeW I0.mono (n := 8) rfl rfl rfl rfl rfl rfl rfl (by conv => lhs; whnf) rfl rfl rfl ?_
   refine GL.doneF ?_
   refine goOn ?_
   refine Wp.retI ?_
   refine RetX.ret ?_
   refine ⟨_, _, _, _, .cons (.cellA (n := 8) rfl rfl rfl (by simp) rfl rfl rfl (Nat.le_of_ble_eq_true rfl)) .nil, .frz ((Frz.aggc (by exact Frz.pure rfl) (Frz.aggc (by exact Frz.pure rfl) (Frz.aggc (by exact Frz.pure rfl) (Frz.aggc (by exact Frz.pure rfl) (Frz.aggc (by exact Frz.pure rfl) (Frz.aggc (by exact Frz.pure rfl) (Frz.aggc (by exact Frz.pure rfl) (Frz.aggc (by exact Frz.pure rfl) Frz.aggn))))))))), List.nodup_nil, by simp, ?_⟩
   (rw [endT, isT0_between, if_pos (nbt h8)]; rfl)

set_option maxRecDepth 100000 in
set_option maxHeartbeats 4000000 in
theorem rextend_ok (i : Inst) (N : Nat) (hb : Sb i N) (hsd : Sd i) (c : Int) (h : Head) (hH : h.ok = true → 0 ≤ h.last ∧ h.last ≤ N) (s : Int) : CallsV Try.prog 74 [ei i, .int .i64 c, .agg (nh h), .int .i64 s] (.agg (nh (extend i c h s))) := by
  refine CallsR.intro (I0.sound _) mix Try.func74 rfl rfl (by simp [Try.f74]) (by kernel_rfl) (nb := 0) ?_
  unfold Try.f74
  refine Wp.seqI ?_
  refine Wp.regI I0.mono ?_
  refine GL.box I0.mono (by conv => lhs; whnf) rfl (n := 4) rfl rfl ?_
  intro g4
  refine GL.box I0.mono (by conv => lhs; whnf) rfl (n := 7) rfl rfl ?_
  intro g6
  refine GL.alloc I0.mono (cs := [LV.bool false, LV.int .i64 0, LV.int .i64 0, LV.int .i64 0, LV.int .u32 0, LV.int .u32 0, LV.int .i64 0]) rfl rfl ?_
  intro g8
  refine GL.doneF ?_
  refine goOn ?_
  refine Wp.seqI ?_
  refine Wp.seqI ?_
  have hq := hb.sq.stops
  have hN := hb.sq.high
  have hmi := mate_in hb hsd s
  have hc := hb.sq.short.cars
  unfold Short at hc
  have hTr := hb.sq.travel
  refine Wp.regD ?_
  refine GL.loadW I0.mono (n := 4) rfl rfl rfl rfl (by simp) rfl rfl rfl ?_
  refine GL.move I0.mono (by conv => lhs; whnf) ?_
  refine GL.call0 I0.mono rfl (Frz.aggc (by exact Frz.pures rfl) (Frz.aggc (by exact Frz.pure rfl) (Frz.aggn))) (rcar_ok i hb.sq.short _) rfl rfl (fun _ => rfl) ?_
  refine GL.un I0.mono rfl ?_
  refine GL.move I0.mono (by conv => lhs; whnf) ?_
  refine GL.splitAt 17 rfl (fun h17 => ?_) (fun h17 => ?_)
  ·rw [h17]
   skip
   refine GL.guardF rfl ?_
   refine GL.guardF rfl ?_
   refine GL.guardF rfl ?_
   refine GL.pick I0.mono rfl (by conv => lhs; whnf) ?_
   refine GL.move I0.mono (by conv => lhs; whnf) ?_
   refine GL.guardF rfl ?_
   refine GL.guardF rfl ?_
   refine GL.guardF rfl ?_
   refine GL.guardF rfl ?_
   refine GL.guardF rfl ?_
   refine GL.guardF rfl ?_
   refine GL.pick I0.mono rfl (by conv => lhs; whnf) ?_
   refine GL.move I0.mono (by conv => lhs; whnf) ?_
   refine GL.guardF rfl ?_
   refine GL.guardF rfl ?_
   refine GL.guardF rfl ?_
   refine GL.guardF rfl ?_
   refine GL.guardF rfl ?_
   refine GL.guardF rfl ?_
   refine GL.pick I0.mono rfl (by conv => lhs; whnf) ?_
   refine GL.doneT (by kernel_rfl) ?_
   refine goOn ?_
   refine Wp.condT rfl ?_
   refine Wp.seqI ?_
   refine Wp.regI I0.mono ?_
   refine GL.buildS I0.mono (z := [LV.bool false, LV.int .i64 0, LV.int .i64 0, LV.int .i64 0, LV.int .u32 0, LV.int .u32 0, LV.int .i64 0]) (cs := [_, _, _, _, _, _, _]) (n := 7) rfl rfl rfl (EvS.nil) rfl rfl ?_
   refine GL.storeW I0.mono (n := 7) rfl rfl rfl rfl rfl rfl rfl (by conv => lhs; whnf) rfl rfl rfl ?_
   refine GL.doneF ?_
   refine goOn ?_
   refine Wp.retI ?_
   refine thenX.ret ?_
   refine RetX.ret ?_
   refine ⟨_, _, _, _, .cons (.cellA (n := 7) rfl rfl rfl (by simp) rfl rfl rfl (Nat.le_of_ble_eq_true rfl)) .nil, .frz ((Frz.aggc (by exact Frz.pure rfl) (Frz.aggc (by exact Frz.pure rfl) (Frz.aggc (by exact Frz.pure rfl) (Frz.aggc (by exact Frz.pure rfl) (Frz.aggc (by exact Frz.pure rfl) (Frz.aggc (by exact Frz.pure rfl) (Frz.aggc (by exact Frz.pure rfl) Frz.aggn)))))))), List.nodup_nil, by simp, ?_⟩
   first
   | (rw [extend, if_neg (by rintro ⟨a1, a2, a3, a4⟩; have a5 := isT_get a2; first | (rw [car_un ⟨a5.1, a5.2.1⟩] at h17; cases h17; done) | (rw [a1] at h22; cases h22; done) | (rw [stop_un ⟨a3, a5.2.2.2⟩] at h30; cases h30; done) | exact h37 a4)]; rfl)
   | (rw [extend, if_pos hH1, if_neg (by rintro ⟨b1, b2, b3⟩; first | exact absurd b1 (Int.not_le.2 h94) | exact absurd b2 (Int.not_le.2 h99) | exact absurd b3 (Int.not_le.2 h109))]; rfl)
   | (rw [extend, if_pos hH1, if_pos hH2, if_pos ((digit_zero (by omega)).2 (by omega))]; rfl)
   | (rw [extend, if_pos hH1, if_pos hH2, if_neg (fun z => by have := (digit_zero (by omega)).1 z; omega), if_pos h118]; rfl)
   | (rw [extend, if_pos hH1, if_pos hH2, if_neg (fun z => by have := (digit_zero (by omega)).1 z; omega), if_neg (by rw [h118]; decide), if_pos h130]; rfl)
   | (rw [extend, if_pos hH1, if_pos hH2, if_neg (fun z => by have := (digit_zero (by omega)).1 z; omega), if_neg (by rw [h118]; decide), if_neg h130]; rfl)
  ·rw [h17]
   skip
   refine GL.guardT rfl ?_
   refine GL.fieldAddr I0.mono (o := 0) rfl rfl rfl rfl (by conv => lhs; whnf) ?_
   refine GL.guardT rfl ?_
   refine GL.load I0.mono rfl rfl rfl rfl (by simp) rfl rfl ?_
   refine GL.guardT rfl ?_
   refine GL.un I0.mono rfl ?_
   refine GL.pick I0.mono rfl (by conv => lhs; whnf) ?_
   refine GL.move I0.mono (by conv => lhs; whnf) ?_
   refine GL.splitAt 22 rfl (fun h22 => ?_) (fun h22 => ?_)
   ·rw [h22]
    skip
    refine GL.guardF rfl ?_
    refine GL.guardF rfl ?_
    refine GL.guardF rfl ?_
    refine GL.guardF rfl ?_
    refine GL.guardF rfl ?_
    refine GL.guardF rfl ?_
    refine GL.pick I0.mono rfl (by conv => lhs; whnf) ?_
    refine GL.move I0.mono (by conv => lhs; whnf) ?_
    refine GL.guardF rfl ?_
    refine GL.guardF rfl ?_
    refine GL.guardF rfl ?_
    refine GL.guardF rfl ?_
    refine GL.guardF rfl ?_
    refine GL.guardF rfl ?_
    refine GL.pick I0.mono rfl (by conv => lhs; whnf) ?_
    refine GL.doneT (by kernel_rfl) ?_
    refine goOn ?_
    refine Wp.condT rfl ?_
    refine Wp.seqI ?_
    refine Wp.regI I0.mono ?_
    refine GL.buildS I0.mono (z := [LV.bool false, LV.int .i64 0, LV.int .i64 0, LV.int .i64 0, LV.int .u32 0, LV.int .u32 0, LV.int .i64 0]) (cs := [_, _, _, _, _, _, _]) (n := 7) rfl rfl rfl (EvS.nil) rfl rfl ?_
    refine GL.storeW I0.mono (n := 7) rfl rfl rfl rfl rfl rfl rfl (by conv => lhs; whnf) rfl rfl rfl ?_
    refine GL.doneF ?_
    refine goOn ?_
    refine Wp.retI ?_
    refine thenX.ret ?_
    refine RetX.ret ?_
    refine ⟨_, _, _, _, .cons (.cellA (n := 7) rfl rfl rfl (by simp) rfl rfl rfl (Nat.le_of_ble_eq_true rfl)) .nil, .frz ((Frz.aggc (by exact Frz.pure rfl) (Frz.aggc (by exact Frz.pure rfl) (Frz.aggc (by exact Frz.pure rfl) (Frz.aggc (by exact Frz.pure rfl) (Frz.aggc (by exact Frz.pure rfl) (Frz.aggc (by exact Frz.pure rfl) (Frz.aggc (by exact Frz.pure rfl) Frz.aggn)))))))), List.nodup_nil, by simp, ?_⟩
    first
    | (rw [extend, if_neg (by rintro ⟨a1, a2, a3, a4⟩; have a5 := isT_get a2; first | (rw [car_un ⟨a5.1, a5.2.1⟩] at h17; cases h17; done) | (rw [a1] at h22; cases h22; done) | (rw [stop_un ⟨a3, a5.2.2.2⟩] at h30; cases h30; done) | exact h37 a4)]; rfl)
    | (rw [extend, if_pos hH1, if_neg (by rintro ⟨b1, b2, b3⟩; first | exact absurd b1 (Int.not_le.2 h94) | exact absurd b2 (Int.not_le.2 h99) | exact absurd b3 (Int.not_le.2 h109))]; rfl)
    | (rw [extend, if_pos hH1, if_pos hH2, if_pos ((digit_zero (by omega)).2 (by omega))]; rfl)
    | (rw [extend, if_pos hH1, if_pos hH2, if_neg (fun z => by have := (digit_zero (by omega)).1 z; omega), if_pos h118]; rfl)
    | (rw [extend, if_pos hH1, if_pos hH2, if_neg (fun z => by have := (digit_zero (by omega)).1 z; omega), if_neg (by rw [h118]; decide), if_pos h130]; rfl)
    | (rw [extend, if_pos hH1, if_pos hH2, if_neg (fun z => by have := (digit_zero (by omega)).1 z; omega), if_neg (by rw [h118]; decide), if_neg h130]; rfl)
   ·rw [h22]
    skip
    refine GL.guardT rfl ?_
    refine GL.move I0.mono (by conv => lhs; whnf) ?_
    refine GL.guardT rfl ?_
    refine GL.fieldAddr I0.mono (o := 1) rfl rfl rfl rfl (by conv => lhs; whnf) ?_
    refine GL.guardT rfl ?_
    refine GL.load I0.mono rfl rfl rfl rfl (by simp) rfl rfl ?_
    refine GL.guardT rfl ?_
    refine GL.lenF I0.mono rfl rfl (em_len _ _) ?_
    refine GL.guardT rfl ?_
    refine GL.call0 I0.mono rfl (Frz.aggc (by exact Frz.pure rfl) (Frz.aggc (by exact Frz.pure rfl) (Frz.aggc (by exact Frz.pure rfl) (Frz.aggn)))) (between_ok _ _ _) rfl rfl (fun _ => rfl) ?_
    refine GL.guardT rfl ?_
    refine GL.un I0.mono rfl ?_
    refine GL.pick I0.mono rfl (by conv => lhs; whnf) ?_
    refine GL.move I0.mono (by conv => lhs; whnf) ?_
    refine GL.splitAt 30 rfl (fun h30 => ?_) (fun h30 => ?_)
    ·rw [h30]
     skip
     refine GL.guardF rfl ?_
     refine GL.guardF rfl ?_
     refine GL.guardF rfl ?_
     refine GL.guardF rfl ?_
     refine GL.guardF rfl ?_
     refine GL.guardF rfl ?_
     refine GL.pick I0.mono rfl (by conv => lhs; whnf) ?_
     refine GL.doneT (by kernel_rfl) ?_
     refine goOn ?_
     refine Wp.condT rfl ?_
     refine Wp.seqI ?_
     refine Wp.regI I0.mono ?_
     refine GL.buildS I0.mono (z := [LV.bool false, LV.int .i64 0, LV.int .i64 0, LV.int .i64 0, LV.int .u32 0, LV.int .u32 0, LV.int .i64 0]) (cs := [_, _, _, _, _, _, _]) (n := 7) rfl rfl rfl (EvS.nil) rfl rfl ?_
     refine GL.storeW I0.mono (n := 7) rfl rfl rfl rfl rfl rfl rfl (by conv => lhs; whnf) rfl rfl rfl ?_
     refine GL.doneF ?_
     refine goOn ?_
     refine Wp.retI ?_
     refine thenX.ret ?_
     refine RetX.ret ?_
     refine ⟨_, _, _, _, .cons (.cellA (n := 7) rfl rfl rfl (by simp) rfl rfl rfl (Nat.le_of_ble_eq_true rfl)) .nil, .frz ((Frz.aggc (by exact Frz.pure rfl) (Frz.aggc (by exact Frz.pure rfl) (Frz.aggc (by exact Frz.pure rfl) (Frz.aggc (by exact Frz.pure rfl) (Frz.aggc (by exact Frz.pure rfl) (Frz.aggc (by exact Frz.pure rfl) (Frz.aggc (by exact Frz.pure rfl) Frz.aggn)))))))), List.nodup_nil, by simp, ?_⟩
     first
     | (rw [extend, if_neg (by rintro ⟨a1, a2, a3, a4⟩; have a5 := isT_get a2; first | (rw [car_un ⟨a5.1, a5.2.1⟩] at h17; cases h17; done) | (rw [a1] at h22; cases h22; done) | (rw [stop_un ⟨a3, a5.2.2.2⟩] at h30; cases h30; done) | exact h37 a4)]; rfl)
     | (rw [extend, if_pos hH1, if_neg (by rintro ⟨b1, b2, b3⟩; first | exact absurd b1 (Int.not_le.2 h94) | exact absurd b2 (Int.not_le.2 h99) | exact absurd b3 (Int.not_le.2 h109))]; rfl)
     | (rw [extend, if_pos hH1, if_pos hH2, if_pos ((digit_zero (by omega)).2 (by omega))]; rfl)
     | (rw [extend, if_pos hH1, if_pos hH2, if_neg (fun z => by have := (digit_zero (by omega)).1 z; omega), if_pos h118]; rfl)
     | (rw [extend, if_pos hH1, if_pos hH2, if_neg (fun z => by have := (digit_zero (by omega)).1 z; omega), if_neg (by rw [h118]; decide), if_pos h130]; rfl)
     | (rw [extend, if_pos hH1, if_pos hH2, if_neg (fun z => by have := (digit_zero (by omega)).1 z; omega), if_neg (by rw [h118]; decide), if_neg h130]; rfl)
    ·rw [h30]
     skip
     refine GL.guardT rfl ?_
     refine GL.fieldAddr I0.mono (o := 5) rfl rfl rfl rfl (by conv => lhs; whnf) ?_
     refine GL.guardT rfl ?_
     refine GL.load I0.mono rfl rfl rfl rfl (by simp) rfl rfl ?_
     refine GL.guardT rfl ?_
     refine GL.move I0.mono (by conv => lhs; whnf) ?_
     refine GL.guardT rfl ?_
     refine GL.call0 I0.mono rfl (Frz.aggc (by exact Frz.pure rfl) (Frz.aggn)) (rdigit_ok _ (stop_in (nbt h30)).1 (by have := stop_in (nbt h30); omega)) rfl rfl (fun _ => rfl) ?_
     refine GL.guardT rfl ?_
     refine GL.andB I0.mono rfl rfl ?_
     refine GL.guardT rfl ?_
     refine GL.neqB I0.mono (b := 0#32) rfl rfl ?_
     refine GL.pick I0.mono rfl (by conv => lhs; whnf) ?_
     refine GL.doneT (by kernel_rfl) ?_
     refine goOn ?_
     refine Wp.condI rfl (fun h37 => ?_) (fun h37 => ?_)
     ·replace h37 := of_decide_eq_true h37
      refine Wp.seqI ?_
      refine Wp.regI I0.mono ?_
      refine GL.buildS I0.mono (z := [LV.bool false, LV.int .i64 0, LV.int .i64 0, LV.int .i64 0, LV.int .u32 0, LV.int .u32 0, LV.int .i64 0]) (cs := [_, _, _, _, _, _, _]) (n := 7) rfl rfl rfl (EvS.nil) rfl rfl ?_
      refine GL.storeW I0.mono (n := 7) rfl rfl rfl rfl rfl rfl rfl (by conv => lhs; whnf) rfl rfl rfl ?_
      refine GL.doneF ?_
      refine goOn ?_
      refine Wp.retI ?_
      refine thenX.ret ?_
      refine RetX.ret ?_
      refine ⟨_, _, _, _, .cons (.cellA (n := 7) rfl rfl rfl (by simp) rfl rfl rfl (Nat.le_of_ble_eq_true rfl)) .nil, .frz ((Frz.aggc (by exact Frz.pure rfl) (Frz.aggc (by exact Frz.pure rfl) (Frz.aggc (by exact Frz.pure rfl) (Frz.aggc (by exact Frz.pure rfl) (Frz.aggc (by exact Frz.pure rfl) (Frz.aggc (by exact Frz.pure rfl) (Frz.aggc (by exact Frz.pure rfl) Frz.aggn)))))))), List.nodup_nil, by simp, ?_⟩
      first
      | (rw [extend, if_neg (by rintro ⟨a1, a2, a3, a4⟩; have a5 := isT_get a2; first | (rw [car_un ⟨a5.1, a5.2.1⟩] at h17; cases h17; done) | (rw [a1] at h22; cases h22; done) | (rw [stop_un ⟨a3, a5.2.2.2⟩] at h30; cases h30; done) | exact h37 a4)]; rfl)
      | (rw [extend, if_pos hH1, if_neg (by rintro ⟨b1, b2, b3⟩; first | exact absurd b1 (Int.not_le.2 h94) | exact absurd b2 (Int.not_le.2 h99) | exact absurd b3 (Int.not_le.2 h109))]; rfl)
      | (rw [extend, if_pos hH1, if_pos hH2, if_pos ((digit_zero (by omega)).2 (by omega))]; rfl)
      | (rw [extend, if_pos hH1, if_pos hH2, if_neg (fun z => by have := (digit_zero (by omega)).1 z; omega), if_pos h118]; rfl)
      | (rw [extend, if_pos hH1, if_pos hH2, if_neg (fun z => by have := (digit_zero (by omega)).1 z; omega), if_neg (by rw [h118]; decide), if_pos h130]; rfl)
      | (rw [extend, if_pos hH1, if_pos hH2, if_neg (fun z => by have := (digit_zero (by omega)).1 z; omega), if_neg (by rw [h118]; decide), if_neg h130]; rfl)
     ·replace h37 := of_decide_eq_false h37
      have hC := car_in (nbt h17)
      have hS := stop_in (nbt h30)
      obtain ⟨l0, l1⟩ := hH (nbt h22)
      have hrow := hb.sq.row h.last.toNat (by omega)
      have e1 : drive i h.last s = (i.travel.getD h.last.toNat default).getD s.toNat default := drive_cell hb.sq l0 l1 (by omega) (by omega)
      have hH1 : h.ok = true ∧ isT i c s = true ∧ 1 ≤ s ∧ h.set &&& digit s = 0#32 := ⟨nbt h22, isT_mk ⟨hC.1, hC.2, by omega, hS.2⟩, hS.1, Decidable.not_not.1 h37⟩
      refine Wp.skipI ?_
      refine goOn ?_
      refine Wp.seqI ?_
      refine Wp.regI I0.mono ?_
      refine GL.fieldAddr I0.mono (o := 1) rfl rfl rfl rfl (by conv => lhs; whnf) ?_
      refine GL.load I0.mono rfl rfl rfl rfl (by simp) rfl rfl ?_
      refine GL.move I0.mono (by conv => lhs; whnf) ?_
      refine GL.subR I0.mono rfl rfl (by omega) ?_
      refine GL.indexAddrF I0.mono (sz := 4) rfl rfl rfl rfl (by omega) (by (rw [em_len]; omega)) (by intro e he; obtain ⟨a, -, rfl⟩ := List.mem_map.1 he; rfl) (by rfl) ?_
      refine GL.loadFW I0.mono (n := 4) rfl rfl (em_get (by omega)) rfl rfl ?_
      refine GL.alloc I0.mono (cs := [LV.int .i64 0, LV.int .i64 0, LV.int .i64 0, LV.int .i64 0]) rfl rfl ?_
      intro g9
      refine GL.storeW I0.mono (n := 4) rfl rfl rfl rfl rfl rfl rfl (by conv => lhs; whnf) rfl rfl rfl ?_
      refine GL.doneF ?_
      refine goOn ?_
      refine Wp.seqI ?_
      refine Wp.regD ?_
      refine GL.fieldAddr I0.mono (o := 2) rfl rfl rfl rfl (by conv => lhs; whnf) ?_
      refine GL.load I0.mono rfl rfl rfl rfl (by simp) rfl rfl ?_
      refine GL.fieldAddr I0.mono (o := 3) rfl rfl rfl rfl (by conv => lhs; whnf) ?_
      refine GL.load I0.mono rfl rfl rfl rfl (by simp) rfl rfl ?_
      refine GL.fieldAddr I0.mono (o := 1) rfl rfl rfl rfl (by conv => lhs; whnf) ?_
      refine GL.load I0.mono rfl rfl rfl rfl (by simp) rfl rfl ?_
      refine GL.indexAddrF I0.mono (sz := 1) rfl rfl rfl rfl (by omega) (by (rw [em_len]; omega)) (by intro e he; obtain ⟨a, -, rfl⟩ := List.mem_map.1 he; rfl) (by rfl) ?_
      refine GL.loadF I0.mono rfl rfl (em_get (by omega)) rfl ?_
      refine GL.move I0.mono (by conv => lhs; whnf) ?_
      refine GL.indexAddrF I0.mono (sz := 1) rfl rfl rfl rfl (by omega) (by (rw [em_len]; omega)) (by intro e he; obtain ⟨a, -, rfl⟩ := List.mem_map.1 he; rfl) (by rfl) ?_
      refine GL.loadF I0.mono rfl rfl (em_get (by omega)) rfl ?_
      refine GL.bin I0.mono rfl ?_
      refine GL.fieldAddr I0.mono (o := 1) rfl rfl rfl rfl (by conv => lhs; whnf) ?_
      refine GL.load I0.mono rfl rfl rfl rfl (by simp) rfl rfl ?_
      refine GL.max I0.mono (v := .int .i64 (xbeg i h s)) (congrArg (fun z => some (LV.int .i64 z)) ((imax_comm _ _).trans (by unfold xbeg; rw [e1]; rfl))) ?_
      refine GL.assign I0.mono (by conv => lhs; whnf) ?_
      refine GL.doneT (by kernel_rfl) ?_
      refine goOn ?_
      refine Wp.seqI ?_
      refine Wp.regD ?_
      refine GL.move I0.mono (by conv => lhs; whnf) ?_
      refine GL.move I0.mono (by conv => lhs; whnf) ?_
      refine GL.fieldAddr I0.mono (o := 3) rfl rfl rfl rfl (by conv => lhs; whnf) ?_
      refine GL.load I0.mono rfl rfl rfl rfl (by simp) rfl rfl ?_
      refine GL.bin I0.mono rfl ?_
      refine GL.fieldAddr I0.mono (o := 3) rfl rfl rfl rfl (by conv => lhs; whnf) ?_
      refine GL.load I0.mono rfl rfl rfl rfl (by simp) rfl rfl ?_
      refine GL.fieldAddr I0.mono (o := 0) rfl rfl rfl rfl (by conv => lhs; whnf) ?_
      refine GL.load I0.mono rfl rfl rfl rfl (by simp) rfl rfl ?_
      refine GL.bin I0.mono rfl ?_
      refine GL.fieldAddr I0.mono (o := 4) rfl rfl rfl rfl (by conv => lhs; whnf) ?_
      refine GL.load I0.mono rfl rfl rfl rfl (by simp) rfl rfl ?_
      refine GL.fieldAddr I0.mono (o := 5) rfl rfl rfl rfl (by conv => lhs; whnf) ?_
      refine GL.load I0.mono rfl rfl rfl rfl (by simp) rfl rfl ?_
      refine GL.move I0.mono (by conv => lhs; whnf) ?_
      refine GL.call0 I0.mono rfl (Frz.aggc (by exact Frz.pure rfl) (Frz.aggn)) (rdigit_ok _ (by omega) (by omega)) rfl rfl (fun _ => rfl) ?_
      refine GL.orB I0.mono rfl rfl ?_
      refine GL.fieldAddr I0.mono (o := 6) rfl rfl rfl rfl (by conv => lhs; whnf) ?_
      refine GL.load I0.mono rfl rfl rfl rfl (by simp) rfl rfl ?_
      refine GL.fieldAddr I0.mono (o := 3) rfl rfl rfl rfl (by conv => lhs; whnf) ?_
      refine GL.load I0.mono rfl rfl rfl rfl (by simp) rfl rfl ?_
      refine GL.fieldAddr I0.mono (o := 1) rfl rfl rfl rfl (by conv => lhs; whnf) ?_
      refine GL.load I0.mono rfl rfl rfl rfl (by simp) rfl rfl ?_
      refine GL.indexAddrF I0.mono (sz := 1) rfl rfl rfl rfl (by omega) (by (rw [em_len]; omega)) (by intro e he; obtain ⟨a, -, rfl⟩ := List.mem_map.1 he; rfl) (by rfl) ?_
      refine GL.loadF I0.mono rfl rfl (em_get (by omega)) rfl ?_
      refine GL.move I0.mono (by conv => lhs; whnf) ?_
      refine GL.indexAddrF I0.mono (sz := 1) rfl rfl rfl rfl (by omega) (by (rw [em_len]; omega)) (by intro e he; obtain ⟨a, -, rfl⟩ := List.mem_map.1 he; rfl) (by rfl) ?_
      refine GL.loadF I0.mono rfl rfl (em_get (by omega)) rfl ?_
      refine GL.bin I0.mono rfl ?_
      rw [← e1]
      refine GL.buildS I0.mono (z := [LV.bool false, LV.int .i64 0, LV.int .i64 0, LV.int .i64 0, LV.int .u32 0, LV.int .u32 0, LV.int .i64 0]) (cs := [_, _, _, _, _, _, _]) (n := 7) rfl rfl rfl (EvS.cons (by conv => lhs; whnf) (EvS.cons (by conv => lhs; whnf) (EvS.cons (by conv => lhs; whnf) (EvS.cons (by conv => lhs; whnf) (EvS.cons (by conv => lhs; whnf) (EvS.cons (by conv => lhs; whnf) (EvS.cons (by conv => lhs; whnf) (EvS.nil)))))))) rfl rfl ?_
      refine GL.alloc I0.mono (cs := [LV.bool false, LV.int .i64 0, LV.int .i64 0, LV.int .i64 0, LV.int .u32 0, LV.int .u32 0, LV.int .i64 0]) rfl rfl ?_
      intro g11
      refine GL.storeW I0.mono (n := 7) rfl rfl rfl rfl rfl rfl rfl (by conv => lhs; whnf) rfl rfl rfl ?_
      refine GL.doneT (by kernel_rfl) ?_
      refine goOn ?_
      refine Wp.seqI ?_
      refine Wp.seqI ?_
      refine Wp.regD ?_
      refine GL.move I0.mono (by conv => lhs; whnf) ?_
      refine GL.fieldAddr I0.mono (o := 2) rfl rfl rfl rfl (by conv => lhs; whnf) ?_
      refine GL.load I0.mono rfl rfl rfl rfl (by simp) rfl rfl ?_
      refine GL.bin I0.mono rfl ?_
      refine GL.move I0.mono (by conv => lhs; whnf) ?_
      refine GL.splitAt 94 rfl (fun h94 => ?_) (fun h94 => ?_)
      ·rw [h94]
       replace h94 := of_decide_eq_true h94
       refine GL.guardF rfl ?_
       refine GL.guardF rfl ?_
       refine GL.guardF rfl ?_
       refine GL.pick I0.mono rfl (by conv => lhs; whnf) ?_
       refine GL.move I0.mono (by conv => lhs; whnf) ?_
       refine GL.guardF rfl ?_
       refine GL.guardF rfl ?_
       refine GL.guardF rfl ?_
       refine GL.guardF rfl ?_
       refine GL.guardF rfl ?_
       refine GL.guardF rfl ?_
       refine GL.guardF rfl ?_
       refine GL.guardF rfl ?_
       refine GL.guardF rfl ?_
       refine GL.pick I0.mono rfl (by conv => lhs; whnf) ?_
       refine GL.doneT (by kernel_rfl) ?_
       refine goOn ?_
       refine Wp.condT rfl ?_
       refine Wp.seqI ?_
       refine Wp.regI I0.mono ?_
       refine GL.buildS I0.mono (z := [LV.bool false, LV.int .i64 0, LV.int .i64 0, LV.int .i64 0, LV.int .u32 0, LV.int .u32 0, LV.int .i64 0]) (cs := [_, _, _, _, _, _, _]) (n := 7) rfl rfl rfl (EvS.nil) rfl rfl ?_
       refine GL.storeW I0.mono (n := 7) rfl rfl rfl rfl rfl rfl rfl (by conv => lhs; whnf) rfl rfl rfl ?_
       refine GL.doneF ?_
       refine goOn ?_
       refine Wp.retI ?_
       refine thenX.ret ?_
       refine RetX.ret ?_
       refine ⟨_, _, _, _, .cons (.cellA (n := 7) rfl rfl rfl (by simp) rfl rfl rfl (Nat.le_of_ble_eq_true rfl)) .nil, .frz ((Frz.aggc (by exact Frz.pure rfl) (Frz.aggc (by exact Frz.pure rfl) (Frz.aggc (by exact Frz.pure rfl) (Frz.aggc (by exact Frz.pure rfl) (Frz.aggc (by exact Frz.pure rfl) (Frz.aggc (by exact Frz.pure rfl) (Frz.aggc (by exact Frz.pure rfl) Frz.aggn)))))))), List.nodup_nil, by simp, ?_⟩
       first
       | (rw [extend, if_neg (by rintro ⟨a1, a2, a3, a4⟩; have a5 := isT_get a2; first | (rw [car_un ⟨a5.1, a5.2.1⟩] at h17; cases h17; done) | (rw [a1] at h22; cases h22; done) | (rw [stop_un ⟨a3, a5.2.2.2⟩] at h30; cases h30; done) | exact h37 a4)]; rfl)
       | (rw [extend, if_pos hH1, if_neg (by rintro ⟨b1, b2, b3⟩; first | exact absurd b1 (Int.not_le.2 h94) | exact absurd b2 (Int.not_le.2 h99) | exact absurd b3 (Int.not_le.2 h109))]; rfl)
       | (rw [extend, if_pos hH1, if_pos hH2, if_pos ((digit_zero (by omega)).2 (by omega))]; rfl)
       | (rw [extend, if_pos hH1, if_pos hH2, if_neg (fun z => by have := (digit_zero (by omega)).1 z; omega), if_pos h118]; rfl)
       | (rw [extend, if_pos hH1, if_pos hH2, if_neg (fun z => by have := (digit_zero (by omega)).1 z; omega), if_neg (by rw [h118]; decide), if_pos h130]; rfl)
       | (rw [extend, if_pos hH1, if_pos hH2, if_neg (fun z => by have := (digit_zero (by omega)).1 z; omega), if_neg (by rw [h118]; decide), if_neg h130]; rfl)
      ·rw [h94]
       replace h94 := of_decide_eq_false h94
       refine GL.guardT rfl ?_
       refine GL.fieldAddr I0.mono (o := 3) rfl rfl rfl rfl (by conv => lhs; whnf) ?_
       refine GL.guardT rfl ?_
       refine GL.load I0.mono rfl rfl rfl rfl (by simp) rfl rfl ?_
       refine GL.guardT rfl ?_
       refine GL.bin I0.mono rfl ?_
       refine GL.pick I0.mono rfl (by conv => lhs; whnf) ?_
       refine GL.move I0.mono (by conv => lhs; whnf) ?_
       refine GL.splitAt 99 rfl (fun h99 => ?_) (fun h99 => ?_)
       ·rw [h99]
        replace h99 := of_decide_eq_true h99
        refine GL.guardF rfl ?_
        refine GL.guardF rfl ?_
        refine GL.guardF rfl ?_
        refine GL.guardF rfl ?_
        refine GL.guardF rfl ?_
        refine GL.guardF rfl ?_
        refine GL.guardF rfl ?_
        refine GL.guardF rfl ?_
        refine GL.guardF rfl ?_
        refine GL.pick I0.mono rfl (by conv => lhs; whnf) ?_
        refine GL.doneT (by kernel_rfl) ?_
        refine goOn ?_
        refine Wp.condT rfl ?_
        refine Wp.seqI ?_
        refine Wp.regI I0.mono ?_
        refine GL.buildS I0.mono (z := [LV.bool false, LV.int .i64 0, LV.int .i64 0, LV.int .i64 0, LV.int .u32 0, LV.int .u32 0, LV.int .i64 0]) (cs := [_, _, _, _, _, _, _]) (n := 7) rfl rfl rfl (EvS.nil) rfl rfl ?_
        refine GL.storeW I0.mono (n := 7) rfl rfl rfl rfl rfl rfl rfl (by conv => lhs; whnf) rfl rfl rfl ?_
        refine GL.doneF ?_
        refine goOn ?_
        refine Wp.retI ?_
        refine thenX.ret ?_
        refine RetX.ret ?_
        refine ⟨_, _, _, _, .cons (.cellA (n := 7) rfl rfl rfl (by simp) rfl rfl rfl (Nat.le_of_ble_eq_true rfl)) .nil, .frz ((Frz.aggc (by exact Frz.pure rfl) (Frz.aggc (by exact Frz.pure rfl) (Frz.aggc (by exact Frz.pure rfl) (Frz.aggc (by exact Frz.pure rfl) (Frz.aggc (by exact Frz.pure rfl) (Frz.aggc (by exact Frz.pure rfl) (Frz.aggc (by exact Frz.pure rfl) Frz.aggn)))))))), List.nodup_nil, by simp, ?_⟩
        first
        | (rw [extend, if_neg (by rintro ⟨a1, a2, a3, a4⟩; have a5 := isT_get a2; first | (rw [car_un ⟨a5.1, a5.2.1⟩] at h17; cases h17; done) | (rw [a1] at h22; cases h22; done) | (rw [stop_un ⟨a3, a5.2.2.2⟩] at h30; cases h30; done) | exact h37 a4)]; rfl)
        | (rw [extend, if_pos hH1, if_neg (by rintro ⟨b1, b2, b3⟩; first | exact absurd b1 (Int.not_le.2 h94) | exact absurd b2 (Int.not_le.2 h99) | exact absurd b3 (Int.not_le.2 h109))]; rfl)
        | (rw [extend, if_pos hH1, if_pos hH2, if_pos ((digit_zero (by omega)).2 (by omega))]; rfl)
        | (rw [extend, if_pos hH1, if_pos hH2, if_neg (fun z => by have := (digit_zero (by omega)).1 z; omega), if_pos h118]; rfl)
        | (rw [extend, if_pos hH1, if_pos hH2, if_neg (fun z => by have := (digit_zero (by omega)).1 z; omega), if_neg (by rw [h118]; decide), if_pos h130]; rfl)
        | (rw [extend, if_pos hH1, if_pos hH2, if_neg (fun z => by have := (digit_zero (by omega)).1 z; omega), if_neg (by rw [h118]; decide), if_neg h130]; rfl)
       ·rw [h99]
        replace h99 := of_decide_eq_false h99
        refine GL.guardT rfl ?_
        refine GL.fieldAddr I0.mono (o := 3) rfl rfl rfl rfl (by conv => lhs; whnf) ?_
        refine GL.guardT rfl ?_
        refine GL.load I0.mono rfl rfl rfl rfl (by simp) rfl rfl ?_
        refine GL.guardT rfl ?_
        refine GL.fieldAddr I0.mono (o := 0) rfl rfl rfl rfl (by conv => lhs; whnf) ?_
        refine GL.guardT rfl ?_
        refine GL.load I0.mono rfl rfl rfl rfl (by simp) rfl rfl ?_
        refine GL.guardT rfl ?_
        refine GL.move I0.mono (by conv => lhs; whnf) ?_
        refine GL.guardT rfl ?_
        refine GL.indexAddrF I0.mono (sz := 3) rfl rfl rfl rfl (by omega) (by (rw [em_len]; omega)) (by intro e he; obtain ⟨a, -, rfl⟩ := List.mem_map.1 he; rfl) (by rfl) ?_
        refine GL.guardT rfl ?_
        refine GL.fieldAddrF I0.mono (o := 0) rfl rfl (by conv => lhs; whnf) ?_
        refine GL.guardT rfl ?_
        refine GL.loadF I0.mono rfl rfl (em_get (by omega)) rfl ?_
        refine GL.guardT rfl ?_
        refine GL.bin I0.mono rfl ?_
        refine GL.pick I0.mono rfl (by conv => lhs; whnf) ?_
        refine GL.doneT (by kernel_rfl) ?_
        refine goOn ?_
        refine Wp.condI rfl (fun h109 => ?_) (fun h109 => ?_)
        ·replace h109 := of_decide_eq_true h109
         refine Wp.seqI ?_
         refine Wp.regI I0.mono ?_
         refine GL.buildS I0.mono (z := [LV.bool false, LV.int .i64 0, LV.int .i64 0, LV.int .i64 0, LV.int .u32 0, LV.int .u32 0, LV.int .i64 0]) (cs := [_, _, _, _, _, _, _]) (n := 7) rfl rfl rfl (EvS.nil) rfl rfl ?_
         refine GL.storeW I0.mono (n := 7) rfl rfl rfl rfl rfl rfl rfl (by conv => lhs; whnf) rfl rfl rfl ?_
         refine GL.doneF ?_
         refine goOn ?_
         refine Wp.retI ?_
         refine thenX.ret ?_
         refine RetX.ret ?_
         refine ⟨_, _, _, _, .cons (.cellA (n := 7) rfl rfl rfl (by simp) rfl rfl rfl (Nat.le_of_ble_eq_true rfl)) .nil, .frz ((Frz.aggc (by exact Frz.pure rfl) (Frz.aggc (by exact Frz.pure rfl) (Frz.aggc (by exact Frz.pure rfl) (Frz.aggc (by exact Frz.pure rfl) (Frz.aggc (by exact Frz.pure rfl) (Frz.aggc (by exact Frz.pure rfl) (Frz.aggc (by exact Frz.pure rfl) Frz.aggn)))))))), List.nodup_nil, by simp, ?_⟩
         first
         | (rw [extend, if_neg (by rintro ⟨a1, a2, a3, a4⟩; have a5 := isT_get a2; first | (rw [car_un ⟨a5.1, a5.2.1⟩] at h17; cases h17; done) | (rw [a1] at h22; cases h22; done) | (rw [stop_un ⟨a3, a5.2.2.2⟩] at h30; cases h30; done) | exact h37 a4)]; rfl)
         | (rw [extend, if_pos hH1, if_neg (by rintro ⟨b1, b2, b3⟩; first | exact absurd b1 (Int.not_le.2 h94) | exact absurd b2 (Int.not_le.2 h99) | exact absurd b3 (Int.not_le.2 h109))]; rfl)
         | (rw [extend, if_pos hH1, if_pos hH2, if_pos ((digit_zero (by omega)).2 (by omega))]; rfl)
         | (rw [extend, if_pos hH1, if_pos hH2, if_neg (fun z => by have := (digit_zero (by omega)).1 z; omega), if_pos h118]; rfl)
         | (rw [extend, if_pos hH1, if_pos hH2, if_neg (fun z => by have := (digit_zero (by omega)).1 z; omega), if_neg (by rw [h118]; decide), if_pos h130]; rfl)
         | (rw [extend, if_pos hH1, if_pos hH2, if_neg (fun z => by have := (digit_zero (by omega)).1 z; omega), if_neg (by rw [h118]; decide), if_neg h130]; rfl)
        ·replace h109 := of_decide_eq_false h109
         have hH2 : xbeg i h s ≤ (stopAt i s).s2 ∧ 0 ≤ wadd h.load (stopAt i s).s0 ∧ wadd h.load (stopAt i s).s0 ≤ (carAt i c).c0 := ⟨Int.not_lt.1 h94, Int.not_lt.1 h99, Int.not_lt.1 h109⟩
         refine Wp.skipI ?_
         refine goOn ?_
         refine Wp.seqI ?_
         refine Wp.seqI ?_
         refine Wp.regI I0.mono ?_
         refine GL.loadW I0.mono (n := 4) rfl rfl rfl rfl (by simp) rfl rfl rfl ?_
         refine GL.move I0.mono (by conv => lhs; whnf) ?_
         refine GL.call0 I0.mono rfl (Frz.aggc (by exact Frz.pures rfl) (Frz.aggc (by exact Frz.pure rfl) (Frz.aggn))) (rmate_ok i hb.sq.short _) rfl rfl (fun _ => rfl) ?_
         refine GL.assign I0.mono (by conv => lhs; whnf) ?_
         refine GL.doneF ?_
         refine goOn ?_
         refine Wp.seqI ?_
         refine Wp.regI I0.mono ?_
         refine GL.move I0.mono (by conv => lhs; whnf) ?_
         refine GL.bin I0.mono rfl ?_
         refine GL.doneF ?_
         refine goOn ?_
         refine Wp.condI rfl (fun h115 => ?_) (fun h115 => ?_)
         ·replace h115 := of_decide_eq_true h115
          refine Wp.seqI ?_
          refine Wp.regI I0.mono ?_
          refine GL.loadW I0.mono (n := 4) rfl rfl rfl rfl (by simp) rfl rfl rfl ?_
          refine GL.move I0.mono (by conv => lhs; whnf) ?_
          refine GL.call0 I0.mono rfl (Frz.aggc (by exact Frz.pures rfl) (Frz.aggc (by exact Frz.pure rfl) (Frz.aggn))) (rfirst_ok i hb.sq.short _) rfl rfl (fun _ => rfl) ?_
          refine GL.doneF ?_
          refine goOn ?_
          refine Wp.condI rfl (fun h118 => ?_) (fun h118 => ?_)
          ·skip
           refine Wp.regD ?_
           refine GL.fieldAddr I0.mono (o := 4) rfl rfl rfl rfl (by conv => lhs; whnf) ?_
           refine GL.load I0.mono rfl rfl rfl rfl (by simp) rfl rfl ?_
           refine GL.move I0.mono (by conv => lhs; whnf) ?_
           refine GL.call0 I0.mono rfl (Frz.aggc (by exact Frz.pure rfl) (Frz.aggn)) (rdigit_ok _ (by omega) (by omega)) rfl rfl (fun _ => rfl) ?_
           refine GL.orB I0.mono rfl rfl ?_
           refine GL.fieldAddr I0.mono (o := 4) rfl rfl rfl rfl (by conv => lhs; whnf) ?_
           refine GL.store I0.mono (n := 1) rfl rfl rfl rfl rfl rfl rfl rfl rfl rfl (Nat.le_of_ble_eq_true rfl) (by (conv => lhs; simp only [List.take_succ_cons, List.take_zero, List.drop_succ_cons, List.drop_zero, List.nil_append, List.cons_append, List.drop_nil, List.append_nil, List.take_nil, List.set_cons_zero, List.set_cons_succ, Nat.zero_add, ni, nr, nc, ns, np, ic, nt, ei, cellsL, nh, nl, u32])) (by (conv => lhs; simp only [List.take_succ_cons, List.take_zero, List.drop_succ_cons, List.drop_zero, List.nil_append, List.cons_append, List.drop_nil, List.append_nil, List.take_nil, List.set_cons_zero, List.set_cons_succ, Nat.zero_add, ni, nr, nc, ns, np, ic, nt, ei, cellsL, nh, nl, u32])) ?_
           refine GL.doneT (by kernel_rfl) ?_
           refine goOn ?_
           refine Wp.seqI ?_
           refine Wp.regI I0.mono ?_
           refine GL.loadW I0.mono (n := 7) rfl rfl rfl rfl (by simp) rfl rfl rfl ?_
           refine GL.storeW I0.mono (n := 7) rfl rfl rfl rfl rfl rfl rfl (by conv => lhs; whnf) rfl rfl rfl ?_
           refine GL.doneF ?_
           refine goOn ?_
           refine Wp.retI ?_
           refine RetX.ret ?_
           refine ⟨_, _, _, _, .cons (.cellA (n := 7) rfl rfl rfl (by simp) rfl rfl rfl (Nat.le_of_ble_eq_true rfl)) .nil, .frz ((Frz.aggc (by exact Frz.pure rfl) (Frz.aggc (by exact Frz.pure rfl) (Frz.aggc (by exact Frz.pure rfl) (Frz.aggc (by exact Frz.pure rfl) (Frz.aggc (by exact Frz.pure rfl) (Frz.aggc (by exact Frz.pure rfl) (Frz.aggc (by exact Frz.pure rfl) Frz.aggn)))))))), List.nodup_nil, by simp, ?_⟩
           first
           | (rw [extend, if_neg (by rintro ⟨a1, a2, a3, a4⟩; have a5 := isT_get a2; first | (rw [car_un ⟨a5.1, a5.2.1⟩] at h17; cases h17; done) | (rw [a1] at h22; cases h22; done) | (rw [stop_un ⟨a3, a5.2.2.2⟩] at h30; cases h30; done) | exact h37 a4)]; rfl)
           | (rw [extend, if_pos hH1, if_neg (by rintro ⟨b1, b2, b3⟩; first | exact absurd b1 (Int.not_le.2 h94) | exact absurd b2 (Int.not_le.2 h99) | exact absurd b3 (Int.not_le.2 h109))]; rfl)
           | (rw [extend, if_pos hH1, if_pos hH2, if_pos ((digit_zero (by omega)).2 (by omega))]; rfl)
           | (rw [extend, if_pos hH1, if_pos hH2, if_neg (fun z => by have := (digit_zero (by omega)).1 z; omega), if_pos h118]; rfl)
           | (rw [extend, if_pos hH1, if_pos hH2, if_neg (fun z => by have := (digit_zero (by omega)).1 z; omega), if_neg (by rw [h118]; decide), if_pos h130]; rfl)
           | (rw [extend, if_pos hH1, if_pos hH2, if_neg (fun z => by have := (digit_zero (by omega)).1 z; omega), if_neg (by rw [h118]; decide), if_neg h130]; rfl)
          ·skip
           refine Wp.seqI ?_
           refine Wp.regD ?_
           refine GL.fieldAddr I0.mono (o := 4) rfl rfl rfl rfl (by conv => lhs; whnf) ?_
           refine GL.load I0.mono rfl rfl rfl rfl (by simp) rfl rfl ?_
           refine GL.move I0.mono (by conv => lhs; whnf) ?_
           refine GL.call0 I0.mono rfl (Frz.aggc (by exact Frz.pure rfl) (Frz.aggn)) (rdigit_ok _ (by omega) (by omega)) rfl rfl (fun _ => rfl) ?_
           refine GL.andB I0.mono rfl rfl ?_
           refine GL.eqlB I0.mono (b := 0#32) rfl rfl ?_
           refine GL.doneT (by kernel_rfl) ?_
           refine goOn ?_
           refine Wp.condI rfl (fun h130 => ?_) (fun h130 => ?_)
           ·replace h130 := of_decide_eq_true h130
            refine Wp.seqI ?_
            refine Wp.regI I0.mono ?_
            refine GL.buildS I0.mono (z := [LV.bool false, LV.int .i64 0, LV.int .i64 0, LV.int .i64 0, LV.int .u32 0, LV.int .u32 0, LV.int .i64 0]) (cs := [_, _, _, _, _, _, _]) (n := 7) rfl rfl rfl (EvS.nil) rfl rfl ?_
            refine GL.storeW I0.mono (n := 7) rfl rfl rfl rfl rfl rfl rfl (by conv => lhs; whnf) rfl rfl rfl ?_
            refine GL.doneF ?_
            refine goOn ?_
            refine Wp.retI ?_
            refine thenX.ret ?_
            refine RetX.ret ?_
            refine ⟨_, _, _, _, .cons (.cellA (n := 7) rfl rfl rfl (by simp) rfl rfl rfl (Nat.le_of_ble_eq_true rfl)) .nil, .frz ((Frz.aggc (by exact Frz.pure rfl) (Frz.aggc (by exact Frz.pure rfl) (Frz.aggc (by exact Frz.pure rfl) (Frz.aggc (by exact Frz.pure rfl) (Frz.aggc (by exact Frz.pure rfl) (Frz.aggc (by exact Frz.pure rfl) (Frz.aggc (by exact Frz.pure rfl) Frz.aggn)))))))), List.nodup_nil, by simp, ?_⟩
            first
            | (rw [extend, if_neg (by rintro ⟨a1, a2, a3, a4⟩; have a5 := isT_get a2; first | (rw [car_un ⟨a5.1, a5.2.1⟩] at h17; cases h17; done) | (rw [a1] at h22; cases h22; done) | (rw [stop_un ⟨a3, a5.2.2.2⟩] at h30; cases h30; done) | exact h37 a4)]; rfl)
            | (rw [extend, if_pos hH1, if_neg (by rintro ⟨b1, b2, b3⟩; first | exact absurd b1 (Int.not_le.2 h94) | exact absurd b2 (Int.not_le.2 h99) | exact absurd b3 (Int.not_le.2 h109))]; rfl)
            | (rw [extend, if_pos hH1, if_pos hH2, if_pos ((digit_zero (by omega)).2 (by omega))]; rfl)
            | (rw [extend, if_pos hH1, if_pos hH2, if_neg (fun z => by have := (digit_zero (by omega)).1 z; omega), if_pos h118]; rfl)
            | (rw [extend, if_pos hH1, if_pos hH2, if_neg (fun z => by have := (digit_zero (by omega)).1 z; omega), if_neg (by rw [h118]; decide), if_pos h130]; rfl)
            | (rw [extend, if_pos hH1, if_pos hH2, if_neg (fun z => by have := (digit_zero (by omega)).1 z; omega), if_neg (by rw [h118]; decide), if_neg h130]; rfl)
           ·replace h130 := of_decide_eq_false h130
            refine Wp.regD ?_
            refine GL.fieldAddr I0.mono (o := 4) rfl rfl rfl rfl (by conv => lhs; whnf) ?_
            refine GL.load I0.mono rfl rfl rfl rfl (by simp) rfl rfl ?_
            refine GL.move I0.mono (by conv => lhs; whnf) ?_
            refine GL.call0 I0.mono rfl (Frz.aggc (by exact Frz.pure rfl) (Frz.aggn)) (rdigit_ok _ (by omega) (by omega)) rfl rfl (fun _ => rfl) ?_
            refine GL.andNotB I0.mono rfl rfl ?_
            refine GL.fieldAddr I0.mono (o := 4) rfl rfl rfl rfl (by conv => lhs; whnf) ?_
            refine GL.store I0.mono (n := 1) rfl rfl rfl rfl rfl rfl rfl rfl rfl rfl (Nat.le_of_ble_eq_true rfl) (by (conv => lhs; simp only [List.take_succ_cons, List.take_zero, List.drop_succ_cons, List.drop_zero, List.nil_append, List.cons_append, List.drop_nil, List.append_nil, List.take_nil, List.set_cons_zero, List.set_cons_succ, Nat.zero_add, ni, nr, nc, ns, np, ic, nt, ei, cellsL, nh, nl, u32])) (by (conv => lhs; simp only [List.take_succ_cons, List.take_zero, List.drop_succ_cons, List.drop_zero, List.nil_append, List.cons_append, List.drop_nil, List.append_nil, List.take_nil, List.set_cons_zero, List.set_cons_succ, Nat.zero_add, ni, nr, nc, ns, np, ic, nt, ei, cellsL, nh, nl, u32])) ?_
            refine GL.doneT (by kernel_rfl) ?_
            refine goOn ?_
            refine Wp.seqI ?_
            refine Wp.regI I0.mono ?_
            refine GL.loadW I0.mono (n := 7) rfl rfl rfl rfl (by simp) rfl rfl rfl ?_
            refine GL.storeW I0.mono (n := 7) rfl rfl rfl rfl rfl rfl rfl (by conv => lhs; whnf) rfl rfl rfl ?_
            refine GL.doneF ?_
            refine goOn ?_
            refine Wp.retI ?_
            refine RetX.ret ?_
            refine ⟨_, _, _, _, .cons (.cellA (n := 7) rfl rfl rfl (by simp) rfl rfl rfl (Nat.le_of_ble_eq_true rfl)) .nil, .frz ((Frz.aggc (by exact Frz.pure rfl) (Frz.aggc (by exact Frz.pure rfl) (Frz.aggc (by exact Frz.pure rfl) (Frz.aggc (by exact Frz.pure rfl) (Frz.aggc (by exact Frz.pure rfl) (Frz.aggc (by exact Frz.pure rfl) (Frz.aggc (by exact Frz.pure rfl) Frz.aggn)))))))), List.nodup_nil, by simp, ?_⟩
            first
            | (rw [extend, if_neg (by rintro ⟨a1, a2, a3, a4⟩; have a5 := isT_get a2; first | (rw [car_un ⟨a5.1, a5.2.1⟩] at h17; cases h17; done) | (rw [a1] at h22; cases h22; done) | (rw [stop_un ⟨a3, a5.2.2.2⟩] at h30; cases h30; done) | exact h37 a4)]; rfl)
            | (rw [extend, if_pos hH1, if_neg (by rintro ⟨b1, b2, b3⟩; first | exact absurd b1 (Int.not_le.2 h94) | exact absurd b2 (Int.not_le.2 h99) | exact absurd b3 (Int.not_le.2 h109))]; rfl)
            | (rw [extend, if_pos hH1, if_pos hH2, if_pos ((digit_zero (by omega)).2 (by omega))]; rfl)
            | (rw [extend, if_pos hH1, if_pos hH2, if_neg (fun z => by have := (digit_zero (by omega)).1 z; omega), if_pos h118]; rfl)
            | (rw [extend, if_pos hH1, if_pos hH2, if_neg (fun z => by have := (digit_zero (by omega)).1 z; omega), if_neg (by rw [h118]; decide), if_pos h130]; rfl)
            | (rw [extend, if_pos hH1, if_pos hH2, if_neg (fun z => by have := (digit_zero (by omega)).1 z; omega), if_neg (by rw [h118]; decide), if_neg h130]; rfl)
         ·replace h115 := of_decide_eq_false h115
          refine Wp.skipI ?_
          refine goOn ?_
          refine Wp.seqI ?_
          refine Wp.regI I0.mono ?_
          refine GL.loadW I0.mono (n := 7) rfl rfl rfl rfl (by simp) rfl rfl rfl ?_
          refine GL.storeW I0.mono (n := 7) rfl rfl rfl rfl rfl rfl rfl (by conv => lhs; whnf) rfl rfl rfl ?_
          refine GL.doneF ?_
          refine goOn ?_
          refine Wp.retI ?_
          refine RetX.ret ?_
          refine ⟨_, _, _, _, .cons (.cellA (n := 7) rfl rfl rfl (by simp) rfl rfl rfl (Nat.le_of_ble_eq_true rfl)) .nil, .frz ((Frz.aggc (by exact Frz.pure rfl) (Frz.aggc (by exact Frz.pure rfl) (Frz.aggc (by exact Frz.pure rfl) (Frz.aggc (by exact Frz.pure rfl) (Frz.aggc (by exact Frz.pure rfl) (Frz.aggc (by exact Frz.pure rfl) (Frz.aggc (by exact Frz.pure rfl) Frz.aggn)))))))), List.nodup_nil, by simp, ?_⟩
          first
          | (rw [extend, if_neg (by rintro ⟨a1, a2, a3, a4⟩; have a5 := isT_get a2; first | (rw [car_un ⟨a5.1, a5.2.1⟩] at h17; cases h17; done) | (rw [a1] at h22; cases h22; done) | (rw [stop_un ⟨a3, a5.2.2.2⟩] at h30; cases h30; done) | exact h37 a4)]; rfl)
          | (rw [extend, if_pos hH1, if_neg (by rintro ⟨b1, b2, b3⟩; first | exact absurd b1 (Int.not_le.2 h94) | exact absurd b2 (Int.not_le.2 h99) | exact absurd b3 (Int.not_le.2 h109))]; rfl)
          | (rw [extend, if_pos hH1, if_pos hH2, if_pos ((digit_zero (by omega)).2 (by omega))]; rfl)
          | (rw [extend, if_pos hH1, if_pos hH2, if_neg (fun z => by have := (digit_zero (by omega)).1 z; omega), if_pos h118]; rfl)
          | (rw [extend, if_pos hH1, if_pos hH2, if_neg (fun z => by have := (digit_zero (by omega)).1 z; omega), if_neg (by rw [h118]; decide), if_pos h130]; rfl)
          | (rw [extend, if_pos hH1, if_pos hH2, if_neg (fun z => by have := (digit_zero (by omega)).1 z; omega), if_neg (by rw [h118]; decide), if_neg h130]; rfl)

end Go.Proofs.Ytpepcfombibpeaa
