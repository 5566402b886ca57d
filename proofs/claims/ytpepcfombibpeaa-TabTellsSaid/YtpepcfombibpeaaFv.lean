/- The tables of the reference, walked. -/
import Derived.Test.YtpepcfombibpeaaFu
import Derived.KernelRfl
set_option linter.unusedVariables false
set_option linter.unusedSimpArgs false
namespace Go.Proofs.Ytpepcfombibpeaa
open Go.Proofs Mv



set_option maxRecDepth 100000 in
set_option maxHeartbeats 4000000 in
theorem rbefore_ok (i : Inst) (N : Nat) (hb : Sb i N) (hsd : Sd i) (c s : Int) (h : Tail) (hH : h.ok = true → 0 ≤ h.first ∧ h.first ≤ N) : CallsV Try.prog 75 [ei i, .int .i64 c, .int .i64 s, .agg (nl h)] (.agg (nl (before i c s h))) := by
  refine CallsR.intro (I0.sound _) mix Try.func75 rfl rfl (by simp [Try.f75]) (by kernel_rfl) (nb := 0) ?_
  unfold Try.f75
  refine Wp.seqI ?_
  refine Wp.regI I0.mono ?_
  refine GL.box I0.mono (by conv => lhs; whnf) rfl (n := 4) rfl rfl ?_
  intro g4
  refine GL.box I0.mono (by conv => lhs; whnf) rfl (n := 8) rfl rfl ?_
  intro g7
  refine GL.alloc I0.mono (cs := [LV.bool false, LV.int .i64 0, LV.int .i64 0, LV.int .i64 0, LV.int .i64 0, LV.int .u32 0, LV.int .u32 0, LV.int .i64 0]) rfl rfl ?_
  intro g8
  refine GL.doneF ?_
  refine goOn ?_
  refine Wp.seqI ?_
  refine Wp.seqI ?_
  have hq := hb.sq.stops
  have hN := hb.sq.high
  have hmi := mate_in hb hsd s
  have hc := hb.sq.short.cars
  unfold Short at hc
  have hTr := hb.sq.travel
  refine Wp.regD ?_
  refine GL.loadW I0.mono (n := 4) rfl rfl rfl rfl (by simp) rfl rfl rfl ?_
  refine GL.move I0.mono (by conv => lhs; whnf) ?_
  refine GL.call0 I0.mono rfl (Frz.aggc (by exact Frz.pures rfl) (Frz.aggc (by exact Frz.pure rfl) (Frz.aggn))) (rcar_ok i hb.sq.short _) rfl rfl (fun _ => rfl) ?_
  refine GL.un I0.mono rfl ?_
  refine GL.move I0.mono (by conv => lhs; whnf) ?_
  refine GL.splitAt 16 rfl (fun h16 => ?_) (fun h16 => ?_)
  ·rw [h16]
   skip
   refine GL.guardF rfl ?_
   refine GL.guardF rfl ?_
   refine GL.guardF rfl ?_
   refine GL.pick I0.mono rfl (by conv => lhs; whnf) ?_
   refine GL.move I0.mono (by conv => lhs; whnf) ?_
   refine GL.guardF rfl ?_
   refine GL.guardF rfl ?_
   refine GL.guardF rfl ?_
   refine GL.guardF rfl ?_
   refine GL.guardF rfl ?_
   refine GL.guardF rfl ?_
   refine GL.pick I0.mono rfl (by conv => lhs; whnf) ?_
   refine GL.move I0.mono (by conv => lhs; whnf) ?_
   refine GL.guardF rfl ?_
   refine GL.guardF rfl ?_
   refine GL.guardF rfl ?_
   refine GL.guardF rfl ?_
   refine GL.guardF rfl ?_
   refine GL.guardF rfl ?_
   refine GL.pick I0.mono rfl (by conv => lhs; whnf) ?_
   refine GL.doneT (by kernel_rfl) ?_
   refine goOn ?_
   refine Wp.condT rfl ?_
   refine Wp.seqI ?_
   refine Wp.regI I0.mono ?_
   refine GL.buildS I0.mono (z := [LV.bool false, LV.int .i64 0, LV.int .i64 0, LV.int .i64 0, LV.int .i64 0, LV.int .u32 0, LV.int .u32 0, LV.int .i64 0]) (cs := [_, _, _, _, _, _, _, _]) (n := 8) rfl rfl rfl (EvS.nil) rfl rfl ?_
   refine GL.storeW I0.mono (n := 8) rfl rfl rfl rfl rfl rfl rfl (by conv => lhs; whnf) rfl rfl rfl ?_
   refine GL.doneF ?_
   refine goOn ?_
   refine Wp.retI ?_
   refine thenX.ret ?_
   refine RetX.ret ?_
   refine ⟨_, _, _, _, .cons (.cellA (n := 8) rfl rfl rfl (by simp) rfl rfl rfl (Nat.le_of_ble_eq_true rfl)) .nil, .frz ((Frz.aggc (by exact Frz.pure rfl) (Frz.aggc (by exact Frz.pure rfl) (Frz.aggc (by exact Frz.pure rfl) (Frz.aggc (by exact Frz.pure rfl) (Frz.aggc (by exact Frz.pure rfl) (Frz.aggc (by exact Frz.pure rfl) (Frz.aggc (by exact Frz.pure rfl) (Frz.aggc (by exact Frz.pure rfl) Frz.aggn))))))))), List.nodup_nil, by simp, ?_⟩
   first
   | (rw [before, if_neg (by rintro ⟨a1, a2, a3, a4⟩; have a5 := isT_get a2; first | (rw [car_un ⟨a5.1, a5.2.1⟩] at h16; cases h16; done) | (rw [a1] at h21; cases h21; done) | (rw [stop_un ⟨a3, a5.2.2.2⟩] at h29; cases h29; done) | exact h36 a4)]; rfl)
   | (rw [before, if_pos hH1, if_neg (fun b => absurd b (Int.not_le.2 (show ylate i s h < (stopAt i s).s1 from h99)))]; rfl)
   | (rw [before, if_pos hH1, if_pos hH2, if_pos ((digit_zero (by omega)).2 (by omega))]; rfl)
   | (rw [before, if_pos hH1, if_pos hH2, if_neg (fun z => by have := (digit_zero (by omega)).1 z; omega), if_pos (nbf h109)]; rfl)
   | (rw [before, if_pos hH1, if_pos hH2, if_neg (fun z => by have := (digit_zero (by omega)).1 z; omega), if_neg (by rw [nbt h109]; decide), if_pos h121]; rfl)
   | (rw [before, if_pos hH1, if_pos hH2, if_neg (fun z => by have := (digit_zero (by omega)).1 z; omega), if_neg (by rw [nbt h109]; decide), if_neg h121]; rfl)
  ·rw [h16]
   skip
   refine GL.guardT rfl ?_
   refine GL.fieldAddr I0.mono (o := 0) rfl rfl rfl rfl (by conv => lhs; whnf) ?_
   refine GL.guardT rfl ?_
   refine GL.load I0.mono rfl rfl rfl rfl (by simp) rfl rfl ?_
   refine GL.guardT rfl ?_
   refine GL.un I0.mono rfl ?_
   refine GL.pick I0.mono rfl (by conv => lhs; whnf) ?_
   refine GL.move I0.mono (by conv => lhs; whnf) ?_
   refine GL.splitAt 21 rfl (fun h21 => ?_) (fun h21 => ?_)
   ·rw [h21]
    skip
    refine GL.guardF rfl ?_
    refine GL.guardF rfl ?_
    refine GL.guardF rfl ?_
    refine GL.guardF rfl ?_
    refine GL.guardF rfl ?_
    refine GL.guardF rfl ?_
    refine GL.pick I0.mono rfl (by conv => lhs; whnf) ?_
    refine GL.move I0.mono (by conv => lhs; whnf) ?_
    refine GL.guardF rfl ?_
    refine GL.guardF rfl ?_
    refine GL.guardF rfl ?_
    refine GL.guardF rfl ?_
    refine GL.guardF rfl ?_
    refine GL.guardF rfl ?_
    refine GL.pick I0.mono rfl (by conv => lhs; whnf) ?_
    refine GL.doneT (by kernel_rfl) ?_
    refine goOn ?_
    refine Wp.condT rfl ?_
    refine Wp.seqI ?_
    refine Wp.regI I0.mono ?_
    refine GL.buildS I0.mono (z := [LV.bool false, LV.int .i64 0, LV.int .i64 0, LV.int .i64 0, LV.int .i64 0, LV.int .u32 0, LV.int .u32 0, LV.int .i64 0]) (cs := [_, _, _, _, _, _, _, _]) (n := 8) rfl rfl rfl (EvS.nil) rfl rfl ?_
    refine GL.storeW I0.mono (n := 8) rfl rfl rfl rfl rfl rfl rfl (by conv => lhs; whnf) rfl rfl rfl ?_
    refine GL.doneF ?_
    refine goOn ?_
    refine Wp.retI ?_
    refine thenX.ret ?_
    refine RetX.ret ?_
    refine ⟨_, _, _, _, .cons (.cellA (n := 8) rfl rfl rfl (by simp) rfl rfl rfl (Nat.le_of_ble_eq_true rfl)) .nil, .frz ((Frz.aggc (by exact Frz.pure rfl) (Frz.aggc (by exact Frz.pure rfl) (Frz.aggc (by exact Frz.pure rfl) (Frz.aggc (by exact Frz.pure rfl) (Frz.aggc (by exact Frz.pure rfl) (Frz.aggc (by exact Frz.pure rfl) (Frz.aggc (by exact Frz.pure rfl) (Frz.aggc (by exact Frz.pure rfl) Frz.aggn))))))))), List.nodup_nil, by simp, ?_⟩
    first
    | (rw [before, if_neg (by rintro ⟨a1, a2, a3, a4⟩; have a5 := isT_get a2; first | (rw [car_un ⟨a5.1, a5.2.1⟩] at h16; cases h16; done) | (rw [a1] at h21; cases h21; done) | (rw [stop_un ⟨a3, a5.2.2.2⟩] at h29; cases h29; done) | exact h36 a4)]; rfl)
    | (rw [before, if_pos hH1, if_neg (fun b => absurd b (Int.not_le.2 (show ylate i s h < (stopAt i s).s1 from h99)))]; rfl)
    | (rw [before, if_pos hH1, if_pos hH2, if_pos ((digit_zero (by omega)).2 (by omega))]; rfl)
    | (rw [before, if_pos hH1, if_pos hH2, if_neg (fun z => by have := (digit_zero (by omega)).1 z; omega), if_pos (nbf h109)]; rfl)
    | (rw [before, if_pos hH1, if_pos hH2, if_neg (fun z => by have := (digit_zero (by omega)).1 z; omega), if_neg (by rw [nbt h109]; decide), if_pos h121]; rfl)
    | (rw [before, if_pos hH1, if_pos hH2, if_neg (fun z => by have := (digit_zero (by omega)).1 z; omega), if_neg (by rw [nbt h109]; decide), if_neg h121]; rfl)
   ·rw [h21]
    skip
    refine GL.guardT rfl ?_
    refine GL.move I0.mono (by conv => lhs; whnf) ?_
    refine GL.guardT rfl ?_
    refine GL.fieldAddr I0.mono (o := 1) rfl rfl rfl rfl (by conv => lhs; whnf) ?_
    refine GL.guardT rfl ?_
    refine GL.load I0.mono rfl rfl rfl rfl (by simp) rfl rfl ?_
    refine GL.guardT rfl ?_
    refine GL.lenF I0.mono rfl rfl (em_len _ _) ?_
    refine GL.guardT rfl ?_
    refine GL.call0 I0.mono rfl (Frz.aggc (by exact Frz.pure rfl) (Frz.aggc (by exact Frz.pure rfl) (Frz.aggc (by exact Frz.pure rfl) (Frz.aggn)))) (between_ok _ _ _) rfl rfl (fun _ => rfl) ?_
    refine GL.guardT rfl ?_
    refine GL.un I0.mono rfl ?_
    refine GL.pick I0.mono rfl (by conv => lhs; whnf) ?_
    refine GL.move I0.mono (by conv => lhs; whnf) ?_
    refine GL.splitAt 29 rfl (fun h29 => ?_) (fun h29 => ?_)
    ·rw [h29]
     skip
     refine GL.guardF rfl ?_
     refine GL.guardF rfl ?_
     refine GL.guardF rfl ?_
     refine GL.guardF rfl ?_
     refine GL.guardF rfl ?_
     refine GL.guardF rfl ?_
     refine GL.pick I0.mono rfl (by conv => lhs; whnf) ?_
     refine GL.doneT (by kernel_rfl) ?_
     refine goOn ?_
     refine Wp.condT rfl ?_
     refine Wp.seqI ?_
     refine Wp.regI I0.mono ?_
     refine GL.buildS I0.mono (z := [LV.bool false, LV.int .i64 0, LV.int .i64 0, LV.int .i64 0, LV.int .i64 0, LV.int .u32 0, LV.int .u32 0, LV.int .i64 0]) (cs := [_, _, _, _, _, _, _, _]) (n := 8) rfl rfl rfl (EvS.nil) rfl rfl ?_
     refine GL.storeW I0.mono (n := 8) rfl rfl rfl rfl rfl rfl rfl (by conv => lhs; whnf) rfl rfl rfl ?_
     refine GL.doneF ?_
     refine goOn ?_
     refine Wp.retI ?_
     refine thenX.ret ?_
     refine RetX.ret ?_
     refine ⟨_, _, _, _, .cons (.cellA (n := 8) rfl rfl rfl (by simp) rfl rfl rfl (Nat.le_of_ble_eq_true rfl)) .nil, .frz ((Frz.aggc (by exact Frz.pure rfl) (Frz.aggc (by exact Frz.pure rfl) (Frz.aggc (by exact Frz.pure rfl) (Frz.aggc (by exact Frz.pure rfl) (Frz.aggc (by exact Frz.pure rfl) (Frz.aggc (by exact Frz.pure rfl) (Frz.aggc (by exact Frz.pure rfl) (Frz.aggc (by exact Frz.pure rfl) Frz.aggn))))))))), List.nodup_nil, by simp, ?_⟩
     first
     | (rw [before, if_neg (by rintro ⟨a1, a2, a3, a4⟩; have a5 := isT_get a2; first | (rw [car_un ⟨a5.1, a5.2.1⟩] at h16; cases h16; done) | (rw [a1] at h21; cases h21; done) | (rw [stop_un ⟨a3, a5.2.2.2⟩] at h29; cases h29; done) | exact h36 a4)]; rfl)
     | (rw [before, if_pos hH1, if_neg (fun b => absurd b (Int.not_le.2 (show ylate i s h < (stopAt i s).s1 from h99)))]; rfl)
     | (rw [before, if_pos hH1, if_pos hH2, if_pos ((digit_zero (by omega)).2 (by omega))]; rfl)
     | (rw [before, if_pos hH1, if_pos hH2, if_neg (fun z => by have := (digit_zero (by omega)).1 z; omega), if_pos (nbf h109)]; rfl)
     | (rw [before, if_pos hH1, if_pos hH2, if_neg (fun z => by have := (digit_zero (by omega)).1 z; omega), if_neg (by rw [nbt h109]; decide), if_pos h121]; rfl)
     | (rw [before, if_pos hH1, if_pos hH2, if_neg (fun z => by have := (digit_zero (by omega)).1 z; omega), if_neg (by rw [nbt h109]; decide), if_neg h121]; rfl)
    ·rw [h29]
     skip
     refine GL.guardT rfl ?_
     refine GL.fieldAddr I0.mono (o := 6) rfl rfl rfl rfl (by conv => lhs; whnf) ?_
     refine GL.guardT rfl ?_
     refine GL.load I0.mono rfl rfl rfl rfl (by simp) rfl rfl ?_
     refine GL.guardT rfl ?_
     refine GL.move I0.mono (by conv => lhs; whnf) ?_
     refine GL.guardT rfl ?_
     refine GL.call0 I0.mono rfl (Frz.aggc (by exact Frz.pure rfl) (Frz.aggn)) (rdigit_ok _ (stop_in (nbt h29)).1 (by have := stop_in (nbt h29); omega)) rfl rfl (fun _ => rfl) ?_
     refine GL.guardT rfl ?_
     refine GL.andB I0.mono rfl rfl ?_
     refine GL.guardT rfl ?_
     refine GL.neqB I0.mono (b := 0#32) rfl rfl ?_
     refine GL.pick I0.mono rfl (by conv => lhs; whnf) ?_
     refine GL.doneT (by kernel_rfl) ?_
     refine goOn ?_
     refine Wp.condI rfl (fun h36 => ?_) (fun h36 => ?_)
     ·replace h36 := of_decide_eq_true h36
      refine Wp.seqI ?_
      refine Wp.regI I0.mono ?_
      refine GL.buildS I0.mono (z := [LV.bool false, LV.int .i64 0, LV.int .i64 0, LV.int .i64 0, LV.int .i64 0, LV.int .u32 0, LV.int .u32 0, LV.int .i64 0]) (cs := [_, _, _, _, _, _, _, _]) (n := 8) rfl rfl rfl (EvS.nil) rfl rfl ?_
      refine GL.storeW I0.mono (n := 8) rfl rfl rfl rfl rfl rfl rfl (by conv => lhs; whnf) rfl rfl rfl ?_
      refine GL.doneF ?_
      refine goOn ?_
      refine Wp.retI ?_
      refine thenX.ret ?_
      refine RetX.ret ?_
      refine ⟨_, _, _, _, .cons (.cellA (n := 8) rfl rfl rfl (by simp) rfl rfl rfl (Nat.le_of_ble_eq_true rfl)) .nil, .frz ((Frz.aggc (by exact Frz.pure rfl) (Frz.aggc (by exact Frz.pure rfl) (Frz.aggc (by exact Frz.pure rfl) (Frz.aggc (by exact Frz.pure rfl) (Frz.aggc (by exact Frz.pure rfl) (Frz.aggc (by exact Frz.pure rfl) (Frz.aggc (by exact Frz.pure rfl) (Frz.aggc (by exact Frz.pure rfl) Frz.aggn))))))))), List.nodup_nil, by simp, ?_⟩
      first
      | (rw [before, if_neg (by rintro ⟨a1, a2, a3, a4⟩; have a5 := isT_get a2; first | (rw [car_un ⟨a5.1, a5.2.1⟩] at h16; cases h16; done) | (rw [a1] at h21; cases h21; done) | (rw [stop_un ⟨a3, a5.2.2.2⟩] at h29; cases h29; done) | exact h36 a4)]; rfl)
      | (rw [before, if_pos hH1, if_neg (fun b => absurd b (Int.not_le.2 (show ylate i s h < (stopAt i s).s1 from h99)))]; rfl)
      | (rw [before, if_pos hH1, if_pos hH2, if_pos ((digit_zero (by omega)).2 (by omega))]; rfl)
      | (rw [before, if_pos hH1, if_pos hH2, if_neg (fun z => by have := (digit_zero (by omega)).1 z; omega), if_pos (nbf h109)]; rfl)
      | (rw [before, if_pos hH1, if_pos hH2, if_neg (fun z => by have := (digit_zero (by omega)).1 z; omega), if_neg (by rw [nbt h109]; decide), if_pos h121]; rfl)
      | (rw [before, if_pos hH1, if_pos hH2, if_neg (fun z => by have := (digit_zero (by omega)).1 z; omega), if_neg (by rw [nbt h109]; decide), if_neg h121]; rfl)
     ·replace h36 := of_decide_eq_false h36
      have hC := car_in (nbt h16)
      have hS := stop_in (nbt h29)
      obtain ⟨l0, l1⟩ := hH (nbt h21)
      have hrow := hb.sq.row s.toNat (by omega)
      have e1 : drive i s h.first = (i.travel.getD s.toNat default).getD h.first.toNat default := drive_cell hb.sq (by omega) (by omega) l0 l1
      have hH1 : h.ok = true ∧ isT i c s = true ∧ 1 ≤ s ∧ h.set &&& digit s = 0#32 := ⟨nbt h21, isT_mk ⟨hC.1, hC.2, by omega, hS.2⟩, hS.1, Decidable.not_not.1 h36⟩
      refine Wp.skipI ?_
      refine goOn ?_
      refine Wp.seqI ?_
      refine Wp.regI I0.mono ?_
      refine GL.fieldAddr I0.mono (o := 1) rfl rfl rfl rfl (by conv => lhs; whnf) ?_
      refine GL.load I0.mono rfl rfl rfl rfl (by simp) rfl rfl ?_
      refine GL.move I0.mono (by conv => lhs; whnf) ?_
      refine GL.subR I0.mono rfl rfl (by omega) ?_
      refine GL.indexAddrF I0.mono (sz := 4) rfl rfl rfl rfl (by omega) (by (rw [em_len]; omega)) (by intro e he; obtain ⟨a, -, rfl⟩ := List.mem_map.1 he; rfl) (by rfl) ?_
      refine GL.loadFW I0.mono (n := 4) rfl rfl (em_get (by omega)) rfl rfl ?_
      refine GL.alloc I0.mono (cs := [LV.int .i64 0, LV.int .i64 0, LV.int .i64 0, LV.int .i64 0]) rfl rfl ?_
      intro g9
      refine GL.storeW I0.mono (n := 4) rfl rfl rfl rfl rfl rfl rfl (by conv => lhs; whnf) rfl rfl rfl ?_
      refine GL.doneF ?_
      refine goOn ?_
      refine Wp.seqI ?_
      refine Wp.regD ?_
      refine GL.move I0.mono (by conv => lhs; whnf) ?_
      refine GL.fieldAddr I0.mono (o := 2) rfl rfl rfl rfl (by conv => lhs; whnf) ?_
      refine GL.load I0.mono rfl rfl rfl rfl (by simp) rfl rfl ?_
      refine GL.fieldAddr I0.mono (o := 2) rfl rfl rfl rfl (by conv => lhs; whnf) ?_
      refine GL.load I0.mono rfl rfl rfl rfl (by simp) rfl rfl ?_
      refine GL.fieldAddr I0.mono (o := 3) rfl rfl rfl rfl (by conv => lhs; whnf) ?_
      refine GL.load I0.mono rfl rfl rfl rfl (by simp) rfl rfl ?_
      refine GL.move I0.mono (by conv => lhs; whnf) ?_
      refine GL.indexAddrF I0.mono (sz := 1) rfl rfl rfl rfl (by omega) (by (rw [em_len]; omega)) (by intro e he; obtain ⟨a, -, rfl⟩ := List.mem_map.1 he; rfl) (by rfl) ?_
      refine GL.loadF I0.mono rfl rfl (em_get (by omega)) rfl ?_
      refine GL.fieldAddr I0.mono (o := 1) rfl rfl rfl rfl (by conv => lhs; whnf) ?_
      refine GL.load I0.mono rfl rfl rfl rfl (by simp) rfl rfl ?_
      refine GL.indexAddrF I0.mono (sz := 1) rfl rfl rfl rfl (by omega) (by (rw [em_len]; omega)) (by intro e he; obtain ⟨a, -, rfl⟩ := List.mem_map.1 he; rfl) (by rfl) ?_
      refine GL.loadF I0.mono rfl rfl (em_get (by omega)) rfl ?_
      refine GL.bin I0.mono rfl ?_
      refine GL.fieldAddr I0.mono (o := 3) rfl rfl rfl rfl (by conv => lhs; whnf) ?_
      refine GL.load I0.mono rfl rfl rfl rfl (by simp) rfl rfl ?_
      refine GL.bin I0.mono rfl ?_
      refine GL.min I0.mono (v := .int .i64 (ylate i s h)) (congrArg (fun z => some (LV.int .i64 z)) (by unfold ylate; rw [e1]; rfl)) ?_
      refine GL.fieldAddr I0.mono (o := 0) rfl rfl rfl rfl (by conv => lhs; whnf) ?_
      refine GL.load I0.mono rfl rfl rfl rfl (by simp) rfl rfl ?_
      refine GL.fieldAddr I0.mono (o := 3) rfl rfl rfl rfl (by conv => lhs; whnf) ?_
      refine GL.load I0.mono rfl rfl rfl rfl (by simp) rfl rfl ?_
      refine GL.bin I0.mono rfl ?_
      refine GL.min I0.mono rfl ?_
      refine GL.fieldAddr I0.mono (o := 0) rfl rfl rfl rfl (by conv => lhs; whnf) ?_
      refine GL.load I0.mono rfl rfl rfl rfl (by simp) rfl rfl ?_
      refine GL.fieldAddr I0.mono (o := 4) rfl rfl rfl rfl (by conv => lhs; whnf) ?_
      refine GL.load I0.mono rfl rfl rfl rfl (by simp) rfl rfl ?_
      refine GL.bin I0.mono rfl ?_
      refine GL.max I0.mono rfl ?_
      refine GL.fieldAddr I0.mono (o := 5) rfl rfl rfl rfl (by conv => lhs; whnf) ?_
      refine GL.load I0.mono rfl rfl rfl rfl (by simp) rfl rfl ?_
      refine GL.fieldAddr I0.mono (o := 6) rfl rfl rfl rfl (by conv => lhs; whnf) ?_
      refine GL.load I0.mono rfl rfl rfl rfl (by simp) rfl rfl ?_
      refine GL.move I0.mono (by conv => lhs; whnf) ?_
      refine GL.call0 I0.mono rfl (Frz.aggc (by exact Frz.pure rfl) (Frz.aggn)) (rdigit_ok _ (by omega) (by omega)) rfl rfl (fun _ => rfl) ?_
      refine GL.orB I0.mono rfl rfl ?_
      refine GL.fieldAddr I0.mono (o := 7) rfl rfl rfl rfl (by conv => lhs; whnf) ?_
      refine GL.load I0.mono rfl rfl rfl rfl (by simp) rfl rfl ?_
      refine GL.fieldAddr I0.mono (o := 3) rfl rfl rfl rfl (by conv => lhs; whnf) ?_
      refine GL.load I0.mono rfl rfl rfl rfl (by simp) rfl rfl ?_
      refine GL.move I0.mono (by conv => lhs; whnf) ?_
      refine GL.indexAddrF I0.mono (sz := 1) rfl rfl rfl rfl (by omega) (by (rw [em_len]; omega)) (by intro e he; obtain ⟨a, -, rfl⟩ := List.mem_map.1 he; rfl) (by rfl) ?_
      refine GL.loadF I0.mono rfl rfl (em_get (by omega)) rfl ?_
      refine GL.fieldAddr I0.mono (o := 1) rfl rfl rfl rfl (by conv => lhs; whnf) ?_
      refine GL.load I0.mono rfl rfl rfl rfl (by simp) rfl rfl ?_
      refine GL.indexAddrF I0.mono (sz := 1) rfl rfl rfl rfl (by omega) (by (rw [em_len]; omega)) (by intro e he; obtain ⟨a, -, rfl⟩ := List.mem_map.1 he; rfl) (by rfl) ?_
      refine GL.loadF I0.mono rfl rfl (em_get (by omega)) rfl ?_
      refine GL.bin I0.mono rfl ?_
      rw [← e1]
      refine GL.buildS I0.mono (z := [LV.bool false, LV.int .i64 0, LV.int .i64 0, LV.int .i64 0, LV.int .i64 0, LV.int .u32 0, LV.int .u32 0, LV.int .i64 0]) (cs := [_, _, _, _, _, _, _, _]) (n := 8) rfl rfl rfl (EvS.cons (by conv => lhs; whnf) (EvS.cons (by conv => lhs; whnf) (EvS.cons (by conv => lhs; whnf) (EvS.cons (by conv => lhs; whnf) (EvS.cons (by conv => lhs; whnf) (EvS.cons (by conv => lhs; whnf) (EvS.cons (by conv => lhs; whnf) (EvS.cons (by conv => lhs; whnf) (EvS.nil))))))))) rfl rfl ?_
      refine GL.alloc I0.mono (cs := [LV.bool false, LV.int .i64 0, LV.int .i64 0, LV.int .i64 0, LV.int .i64 0, LV.int .u32 0, LV.int .u32 0, LV.int .i64 0]) rfl rfl ?_
      intro g10
      refine GL.storeW I0.mono (n := 8) rfl rfl rfl rfl rfl rfl rfl (by conv => lhs; whnf) rfl rfl rfl ?_
      refine GL.doneT (by kernel_rfl) ?_
      refine goOn ?_
      refine Wp.seqI ?_
      refine Wp.seqI ?_
      refine Wp.regI I0.mono ?_
      refine GL.fieldAddr I0.mono (o := 2) rfl rfl rfl rfl (by conv => lhs; whnf) ?_
      refine GL.load I0.mono rfl rfl rfl rfl (by simp) rfl rfl ?_
      refine GL.fieldAddr I0.mono (o := 1) rfl rfl rfl rfl (by conv => lhs; whnf) ?_
      refine GL.load I0.mono rfl rfl rfl rfl (by simp) rfl rfl ?_
      refine GL.bin I0.mono rfl ?_
      refine GL.doneF ?_
      refine goOn ?_
      refine Wp.condI rfl (fun h99 => ?_) (fun h99 => ?_)
      ·replace h99 := of_decide_eq_true h99
       refine Wp.seqI ?_
       refine Wp.regI I0.mono ?_
       refine GL.buildS I0.mono (z := [LV.bool false, LV.int .i64 0, LV.int .i64 0, LV.int .i64 0, LV.int .i64 0, LV.int .u32 0, LV.int .u32 0, LV.int .i64 0]) (cs := [_, _, _, _, _, _, _, _]) (n := 8) rfl rfl rfl (EvS.nil) rfl rfl ?_
       refine GL.storeW I0.mono (n := 8) rfl rfl rfl rfl rfl rfl rfl (by conv => lhs; whnf) rfl rfl rfl ?_
       refine GL.doneF ?_
       refine goOn ?_
       refine Wp.retI ?_
       refine thenX.ret ?_
       refine RetX.ret ?_
       refine ⟨_, _, _, _, .cons (.cellA (n := 8) rfl rfl rfl (by simp) rfl rfl rfl (Nat.le_of_ble_eq_true rfl)) .nil, .frz ((Frz.aggc (by exact Frz.pure rfl) (Frz.aggc (by exact Frz.pure rfl) (Frz.aggc (by exact Frz.pure rfl) (Frz.aggc (by exact Frz.pure rfl) (Frz.aggc (by exact Frz.pure rfl) (Frz.aggc (by exact Frz.pure rfl) (Frz.aggc (by exact Frz.pure rfl) (Frz.aggc (by exact Frz.pure rfl) Frz.aggn))))))))), List.nodup_nil, by simp, ?_⟩
       first
       | (rw [before, if_neg (by rintro ⟨a1, a2, a3, a4⟩; have a5 := isT_get a2; first | (rw [car_un ⟨a5.1, a5.2.1⟩] at h16; cases h16; done) | (rw [a1] at h21; cases h21; done) | (rw [stop_un ⟨a3, a5.2.2.2⟩] at h29; cases h29; done) | exact h36 a4)]; rfl)
       | (rw [before, if_pos hH1, if_neg (fun b => absurd b (Int.not_le.2 (show ylate i s h < (stopAt i s).s1 from h99)))]; rfl)
       | (rw [before, if_pos hH1, if_pos hH2, if_pos ((digit_zero (by omega)).2 (by omega))]; rfl)
       | (rw [before, if_pos hH1, if_pos hH2, if_neg (fun z => by have := (digit_zero (by omega)).1 z; omega), if_pos (nbf h109)]; rfl)
       | (rw [before, if_pos hH1, if_pos hH2, if_neg (fun z => by have := (digit_zero (by omega)).1 z; omega), if_neg (by rw [nbt h109]; decide), if_pos h121]; rfl)
       | (rw [before, if_pos hH1, if_pos hH2, if_neg (fun z => by have := (digit_zero (by omega)).1 z; omega), if_neg (by rw [nbt h109]; decide), if_neg h121]; rfl)
      ·replace h99 := of_decide_eq_false h99
       have hH2 : (stopAt i s).s1 ≤ ylate i s h := Int.not_lt.1 h99
       refine Wp.skipI ?_
       refine goOn ?_
       refine Wp.seqI ?_
       refine Wp.seqI ?_
       refine Wp.regI I0.mono ?_
       refine GL.loadW I0.mono (n := 4) rfl rfl rfl rfl (by simp) rfl rfl rfl ?_
       refine GL.move I0.mono (by conv => lhs; whnf) ?_
       refine GL.call0 I0.mono rfl (Frz.aggc (by exact Frz.pures rfl) (Frz.aggc (by exact Frz.pure rfl) (Frz.aggn))) (rmate_ok i hb.sq.short _) rfl rfl (fun _ => rfl) ?_
       refine GL.assign I0.mono (by conv => lhs; whnf) ?_
       refine GL.doneF ?_
       refine goOn ?_
       refine Wp.seqI ?_
       refine Wp.regI I0.mono ?_
       refine GL.move I0.mono (by conv => lhs; whnf) ?_
       refine GL.bin I0.mono rfl ?_
       refine GL.doneF ?_
       refine goOn ?_
       refine Wp.condI rfl (fun h105 => ?_) (fun h105 => ?_)
       ·replace h105 := of_decide_eq_true h105
        refine Wp.seqI ?_
        refine Wp.regI I0.mono ?_
        refine GL.loadW I0.mono (n := 4) rfl rfl rfl rfl (by simp) rfl rfl rfl ?_
        refine GL.move I0.mono (by conv => lhs; whnf) ?_
        refine GL.call0 I0.mono rfl (Frz.aggc (by exact Frz.pures rfl) (Frz.aggc (by exact Frz.pure rfl) (Frz.aggn))) (rfirst_ok i hb.sq.short _) rfl rfl (fun _ => rfl) ?_
        refine GL.un I0.mono rfl ?_
        refine GL.doneF ?_
        refine goOn ?_
        refine Wp.condI rfl (fun h109 => ?_) (fun h109 => ?_)
        ·skip
         refine Wp.regD ?_
         refine GL.fieldAddr I0.mono (o := 5) rfl rfl rfl rfl (by conv => lhs; whnf) ?_
         refine GL.load I0.mono rfl rfl rfl rfl (by simp) rfl rfl ?_
         refine GL.move I0.mono (by conv => lhs; whnf) ?_
         refine GL.call0 I0.mono rfl (Frz.aggc (by exact Frz.pure rfl) (Frz.aggn)) (rdigit_ok _ (by omega) (by omega)) rfl rfl (fun _ => rfl) ?_
         refine GL.orB I0.mono rfl rfl ?_
         refine GL.fieldAddr I0.mono (o := 5) rfl rfl rfl rfl (by conv => lhs; whnf) ?_
         refine GL.store I0.mono (n := 1) rfl rfl rfl rfl rfl rfl rfl rfl rfl rfl (Nat.le_of_ble_eq_true rfl) (by (conv => lhs; simp only [List.take_succ_cons, List.take_zero, List.drop_succ_cons, List.drop_zero, List.nil_append, List.cons_append, List.drop_nil, List.append_nil, List.take_nil, List.set_cons_zero, List.set_cons_succ, Nat.zero_add, ni, nr, nc, ns, np, ic, nt, ei, cellsL, nh, nl, u32])) (by (conv => lhs; simp only [List.take_succ_cons, List.take_zero, List.drop_succ_cons, List.drop_zero, List.nil_append, List.cons_append, List.drop_nil, List.append_nil, List.take_nil, List.set_cons_zero, List.set_cons_succ, Nat.zero_add, ni, nr, nc, ns, np, ic, nt, ei, cellsL, nh, nl, u32])) ?_
         refine GL.doneT (by kernel_rfl) ?_
         refine goOn ?_
         refine Wp.seqI ?_
         refine Wp.regI I0.mono ?_
         refine GL.loadW I0.mono (n := 8) rfl rfl rfl rfl (by simp) rfl rfl rfl ?_
         refine GL.storeW I0.mono (n := 8) rfl rfl rfl rfl rfl rfl rfl (by conv => lhs; whnf) rfl rfl rfl ?_
         refine GL.doneF ?_
         refine goOn ?_
         refine Wp.retI ?_
         refine RetX.ret ?_
         refine ⟨_, _, _, _, .cons (.cellA (n := 8) rfl rfl rfl (by simp) rfl rfl rfl (Nat.le_of_ble_eq_true rfl)) .nil, .frz ((Frz.aggc (by exact Frz.pure rfl) (Frz.aggc (by exact Frz.pure rfl) (Frz.aggc (by exact Frz.pure rfl) (Frz.aggc (by exact Frz.pure rfl) (Frz.aggc (by exact Frz.pure rfl) (Frz.aggc (by exact Frz.pure rfl) (Frz.aggc (by exact Frz.pure rfl) (Frz.aggc (by exact Frz.pure rfl) Frz.aggn))))))))), List.nodup_nil, by simp, ?_⟩
         first
         | (rw [before, if_neg (by rintro ⟨a1, a2, a3, a4⟩; have a5 := isT_get a2; first | (rw [car_un ⟨a5.1, a5.2.1⟩] at h16; cases h16; done) | (rw [a1] at h21; cases h21; done) | (rw [stop_un ⟨a3, a5.2.2.2⟩] at h29; cases h29; done) | exact h36 a4)]; rfl)
         | (rw [before, if_pos hH1, if_neg (fun b => absurd b (Int.not_le.2 (show ylate i s h < (stopAt i s).s1 from h99)))]; rfl)
         | (rw [before, if_pos hH1, if_pos hH2, if_pos ((digit_zero (by omega)).2 (by omega))]; rfl)
         | (rw [before, if_pos hH1, if_pos hH2, if_neg (fun z => by have := (digit_zero (by omega)).1 z; omega), if_pos (nbf h109)]; rfl)
         | (rw [before, if_pos hH1, if_pos hH2, if_neg (fun z => by have := (digit_zero (by omega)).1 z; omega), if_neg (by rw [nbt h109]; decide), if_pos h121]; rfl)
         | (rw [before, if_pos hH1, if_pos hH2, if_neg (fun z => by have := (digit_zero (by omega)).1 z; omega), if_neg (by rw [nbt h109]; decide), if_neg h121]; rfl)
        ·skip
         refine Wp.seqI ?_
         refine Wp.regD ?_
         refine GL.fieldAddr I0.mono (o := 5) rfl rfl rfl rfl (by conv => lhs; whnf) ?_
         refine GL.load I0.mono rfl rfl rfl rfl (by simp) rfl rfl ?_
         refine GL.move I0.mono (by conv => lhs; whnf) ?_
         refine GL.call0 I0.mono rfl (Frz.aggc (by exact Frz.pure rfl) (Frz.aggn)) (rdigit_ok _ (by omega) (by omega)) rfl rfl (fun _ => rfl) ?_
         refine GL.andB I0.mono rfl rfl ?_
         refine GL.eqlB I0.mono (b := 0#32) rfl rfl ?_
         refine GL.doneT (by kernel_rfl) ?_
         refine goOn ?_
         refine Wp.condI rfl (fun h121 => ?_) (fun h121 => ?_)
         ·replace h121 := of_decide_eq_true h121
          refine Wp.seqI ?_
          refine Wp.regI I0.mono ?_
          refine GL.buildS I0.mono (z := [LV.bool false, LV.int .i64 0, LV.int .i64 0, LV.int .i64 0, LV.int .i64 0, LV.int .u32 0, LV.int .u32 0, LV.int .i64 0]) (cs := [_, _, _, _, _, _, _, _]) (n := 8) rfl rfl rfl (EvS.nil) rfl rfl ?_
          refine GL.storeW I0.mono (n := 8) rfl rfl rfl rfl rfl rfl rfl (by conv => lhs; whnf) rfl rfl rfl ?_
          refine GL.doneF ?_
          refine goOn ?_
          refine Wp.retI ?_
          refine thenX.ret ?_
          refine RetX.ret ?_
          refine ⟨_, _, _, _, .cons (.cellA (n := 8) rfl rfl rfl (by simp) rfl rfl rfl (Nat.le_of_ble_eq_true rfl)) .nil, .frz ((Frz.aggc (by exact Frz.pure rfl) (Frz.aggc (by exact Frz.pure rfl) (Frz.aggc (by exact Frz.pure rfl) (Frz.aggc (by exact Frz.pure rfl) (Frz.aggc (by exact Frz.pure rfl) (Frz.aggc (by exact Frz.pure rfl) (Frz.aggc (by exact Frz.pure rfl) (Frz.aggc (by exact Frz.pure rfl) Frz.aggn))))))))), List.nodup_nil, by simp, ?_⟩
          first
          | (rw [before, if_neg (by rintro ⟨a1, a2, a3, a4⟩; have a5 := isT_get a2; first | (rw [car_un ⟨a5.1, a5.2.1⟩] at h16; cases h16; done) | (rw [a1] at h21; cases h21; done) | (rw [stop_un ⟨a3, a5.2.2.2⟩] at h29; cases h29; done) | exact h36 a4)]; rfl)
          | (rw [before, if_pos hH1, if_neg (fun b => absurd b (Int.not_le.2 (show ylate i s h < (stopAt i s).s1 from h99)))]; rfl)
          | (rw [before, if_pos hH1, if_pos hH2, if_pos ((digit_zero (by omega)).2 (by omega))]; rfl)
          | (rw [before, if_pos hH1, if_pos hH2, if_neg (fun z => by have := (digit_zero (by omega)).1 z; omega), if_pos (nbf h109)]; rfl)
          | (rw [before, if_pos hH1, if_pos hH2, if_neg (fun z => by have := (digit_zero (by omega)).1 z; omega), if_neg (by rw [nbt h109]; decide), if_pos h121]; rfl)
          | (rw [before, if_pos hH1, if_pos hH2, if_neg (fun z => by have := (digit_zero (by omega)).1 z; omega), if_neg (by rw [nbt h109]; decide), if_neg h121]; rfl)
         ·replace h121 := of_decide_eq_false h121
          refine Wp.regD ?_
          refine GL.fieldAddr I0.mono (o := 5) rfl rfl rfl rfl (by conv => lhs; whnf) ?_
          refine GL.load I0.mono rfl rfl rfl rfl (by simp) rfl rfl ?_
          refine GL.move I0.mono (by conv => lhs; whnf) ?_
          refine GL.call0 I0.mono rfl (Frz.aggc (by exact Frz.pure rfl) (Frz.aggn)) (rdigit_ok _ (by omega) (by omega)) rfl rfl (fun _ => rfl) ?_
          refine GL.andNotB I0.mono rfl rfl ?_
          refine GL.fieldAddr I0.mono (o := 5) rfl rfl rfl rfl (by conv => lhs; whnf) ?_
          refine GL.store I0.mono (n := 1) rfl rfl rfl rfl rfl rfl rfl rfl rfl rfl (Nat.le_of_ble_eq_true rfl) (by (conv => lhs; simp only [List.take_succ_cons, List.take_zero, List.drop_succ_cons, List.drop_zero, List.nil_append, List.cons_append, List.drop_nil, List.append_nil, List.take_nil, List.set_cons_zero, List.set_cons_succ, Nat.zero_add, ni, nr, nc, ns, np, ic, nt, ei, cellsL, nh, nl, u32])) (by (conv => lhs; simp only [List.take_succ_cons, List.take_zero, List.drop_succ_cons, List.drop_zero, List.nil_append, List.cons_append, List.drop_nil, List.append_nil, List.take_nil, List.set_cons_zero, List.set_cons_succ, Nat.zero_add, ni, nr, nc, ns, np, ic, nt, ei, cellsL, nh, nl, u32])) ?_
          refine GL.doneT (by kernel_rfl) ?_
          refine goOn ?_
          refine Wp.seqI ?_
          refine Wp.regI I0.mono ?_
          refine GL.loadW I0.mono (n := 8) rfl rfl rfl rfl (by simp) rfl rfl rfl ?_
          refine GL.storeW I0.mono (n := 8) rfl rfl rfl rfl rfl rfl rfl (by conv => lhs; whnf) rfl rfl rfl ?_
          refine GL.doneF ?_
          refine goOn ?_
          refine Wp.retI ?_
          refine RetX.ret ?_
          refine ⟨_, _, _, _, .cons (.cellA (n := 8) rfl rfl rfl (by simp) rfl rfl rfl (Nat.le_of_ble_eq_true rfl)) .nil, .frz ((Frz.aggc (by exact Frz.pure rfl) (Frz.aggc (by exact Frz.pure rfl) (Frz.aggc (by exact Frz.pure rfl) (Frz.aggc (by exact Frz.pure rfl) (Frz.aggc (by exact Frz.pure rfl) (Frz.aggc (by exact Frz.pure rfl) (Frz.aggc (by exact Frz.pure rfl) (Frz.aggc (by exact Frz.pure rfl) Frz.aggn))))))))), List.nodup_nil, by simp, ?_⟩
          first
          | (rw [before, if_neg (by rintro ⟨a1, a2, a3, a4⟩; have a5 := isT_get a2; first | (rw [car_un ⟨a5.1, a5.2.1⟩] at h16; cases h16; done) | (rw [a1] at h21; cases h21; done) | (rw [stop_un ⟨a3, a5.2.2.2⟩] at h29; cases h29; done) | exact h36 a4)]; rfl)
          | (rw [before, if_pos hH1, if_neg (fun b => absurd b (Int.not_le.2 (show ylate i s h < (stopAt i s).s1 from h99)))]; rfl)
          | (rw [before, if_pos hH1, if_pos hH2, if_pos ((digit_zero (by omega)).2 (by omega))]; rfl)
          | (rw [before, if_pos hH1, if_pos hH2, if_neg (fun z => by have := (digit_zero (by omega)).1 z; omega), if_pos (nbf h109)]; rfl)
          | (rw [before, if_pos hH1, if_pos hH2, if_neg (fun z => by have := (digit_zero (by omega)).1 z; omega), if_neg (by rw [nbt h109]; decide), if_pos h121]; rfl)
          | (rw [before, if_pos hH1, if_pos hH2, if_neg (fun z => by have := (digit_zero (by omega)).1 z; omega), if_neg (by rw [nbt h109]; decide), if_neg h121]; rfl)
       ·replace h105 := of_decide_eq_false h105
        refine Wp.skipI ?_
        refine goOn ?_
        refine Wp.seqI ?_
        refine Wp.regI I0.mono ?_
        refine GL.loadW I0.mono (n := 8) rfl rfl rfl rfl (by simp) rfl rfl rfl ?_
        refine GL.storeW I0.mono (n := 8) rfl rfl rfl rfl rfl rfl rfl (by conv => lhs; whnf) rfl rfl rfl ?_
        refine GL.doneF ?_
        refine goOn ?_
        refine Wp.retI ?_
        refine RetX.ret ?_
        refine ⟨_, _, _, _, .cons (.cellA (n := 8) rfl rfl rfl (by simp) rfl rfl rfl (Nat.le_of_ble_eq_true rfl)) .nil, .frz ((Frz.aggc (by exact Frz.pure rfl) (Frz.aggc (by exact Frz.pure rfl) (Frz.aggc (by exact Frz.pure rfl) (Frz.aggc (by exact Frz.pure rfl) (Frz.aggc (by exact Frz.pure rfl) (Frz.aggc (by exact Frz.pure rfl) (Frz.aggc (by exact Frz.pure rfl) (Frz.aggc (by exact Frz.pure rfl) Frz.aggn))))))))), List.nodup_nil, by simp, ?_⟩
        first
        | (rw [before, if_neg (by rintro ⟨a1, a2, a3, a4⟩; have a5 := isT_get a2; first | (rw [car_un ⟨a5.1, a5.2.1⟩] at h16; cases h16; done) | (rw [a1] at h21; cases h21; done) | (rw [stop_un ⟨a3, a5.2.2.2⟩] at h29; cases h29; done) | exact h36 a4)]; rfl)
        | (rw [before, if_pos hH1, if_neg (fun b => absurd b (Int.not_le.2 (show ylate i s h < (stopAt i s).s1 from h99)))]; rfl)
        | (rw [before, if_pos hH1, if_pos hH2, if_pos ((digit_zero (by omega)).2 (by omega))]; rfl)
        | (rw [before, if_pos hH1, if_pos hH2, if_neg (fun z => by have := (digit_zero (by omega)).1 z; omega), if_pos (nbf h109)]; rfl)
        | (rw [before, if_pos hH1, if_pos hH2, if_neg (fun z => by have := (digit_zero (by omega)).1 z; omega), if_neg (by rw [nbt h109]; decide), if_pos h121]; rfl)
        | (rw [before, if_pos hH1, if_pos hH2, if_neg (fun z => by have := (digit_zero (by omega)).1 z; omega), if_neg (by rw [nbt h109]; decide), if_neg h121]; rfl)

set_option maxRecDepth 100000 in
set_option maxHeartbeats 4000000 in
theorem rheads_ok (i : Inst) (N : Nat) (hb : Sb i N) (hsd : Sd i) (c : Int) (l : List Int) (hl : l.length ≤ 1000) : CallsV Try.prog 44 [ei i, .int .i64 c, .sl (em ni l)] (.slo 7 (em nh (heads i c l))) := by
  refine CallsR.intro (I0.sound _) mix Try.func44 rfl rfl (by simp [Try.f44]) (by kernel_rfl) (nb := 0) ?_
  unfold Try.f44
  refine Wp.seqI ?_
  refine Wp.regI I0.mono ?_
  refine GL.box I0.mono (by conv => lhs; whnf) rfl (n := 4) rfl rfl ?_
  intro g3
  refine GL.assign I0.mono (by conv => lhs; whnf) ?_
  refine GL.doneF ?_
  refine goOn ?_
  refine Wp.seqI ?_
  refine Wp.seqI ?_
  refine Wp.regI I0.mono ?_
  refine GL.loadW I0.mono (n := 4) rfl rfl rfl rfl (by simp) (by rfl) rfl rfl ?_
  refine GL.move I0.mono (by conv => lhs; whnf) ?_
  refine GL.call0 I0.mono rfl (Frz.aggc (by exact Frz.pures rfl) (Frz.aggc (by exact Frz.pure rfl) (Frz.aggn))) (rcar_ok i hb.sq.short _) rfl rfl (fun _ => rfl) ?_
  refine GL.un I0.mono rfl ?_
  refine GL.doneF ?_
  refine goOn ?_
  refine Wp.condI rfl (fun h13 => ?_) (fun h13 => ?_)
  ·skip
   refine Wp.seqI ?_
   refine Wp.regI I0.mono ?_
   refine GL.assign I0.mono (by conv => lhs; whnf) ?_
   refine GL.doneF ?_
   refine goOn ?_
   refine Wp.retI ?_
   refine thenX.ret ?_
   refine RetX.ret ?_
   refine ⟨_, _, _, _, .cons (.tmp rfl) .nil, (by exact Exp.nils (sz := 7)), (by decide), by simp, ?_⟩
   first
   | (rw [heads, isT0_between, if_neg (by rw [nbf h13]; decide)]; rfl)
   | (rw [heads, isT0_between, if_pos (nbt h13)]; rfl)
  ·skip
   refine Wp.skipI ?_
   refine goOn ?_
   refine Wp.seqI ?_
   refine Wp.regI I0.mono ?_
   refine GL.loadW I0.mono (n := 4) rfl rfl rfl rfl (by simp) (by rfl) rfl rfl ?_
   refine GL.move I0.mono (by conv => lhs; whnf) ?_
   refine GL.call0 I0.mono rfl (Frz.aggc (by exact Frz.pures rfl) (Frz.aggc (by exact Frz.pure rfl) (Frz.aggn))) (rbegin_ok i hb.sq.short _) rfl rfl (fun _ => rfl) ?_
   refine GL.buildSlice0 I0.mono (sz := 7) (z := [LV.bool false, LV.int .i64 0, LV.int .i64 0, LV.int .i64 0, LV.int .u32 0, LV.int .u32 0, LV.int .i64 0]) (es := em nh (headsK i c l 0)) rfl rfl rfl rfl (by decide) (by decide) (by decide) (FrzP.cons (S := []) (T := []) (Frz.pures rfl) rfl (by decide) rfl (FrzP.nil)) rfl ?_
   intro g17
   refine GL.assign I0.mono (by conv => lhs; whnf) ?_
   refine GL.doneF ?_
   refine goOn ?_
   refine Wp.seqI ?_
   refine Wp.seqI ?_
   refine Wp.regI I0.mono ?_
   refine GL.move I0.mono (by conv => lhs; whnf) ?_
   refine GL.lenF I0.mono rfl rfl (em_len _ _) ?_
   refine GL.move I0.mono (by conv => lhs; whnf) ?_
   refine GL.doneF ?_
   refine goOn ?_
   refine Wp.blockI ?_
   refine Wp.loopI I0.mono (α := Nat × Nat) (fun ⟨k, g⟩ st => (k ≤ l.length) ∧ ∃ m0, st = ⟨(updS (updS (updS (updS (updS (updS (fun _ => LV.undef) 1 (.int .i64 c)) 3 (.ref 192 g3 0 0)) 7 (.own 1088 g 0 (k + 1) none)) 18 (.sl (em ni l))) 19 (.int .i64 (l.length : Int))) 20 (.int .i64 (k : Int))), effM m0 [(192, ⟨g3, false, .var, 4, [ic i]⟩), (1088, ⟨g, false, .slc, 7, em nh (headsK i c l k)⟩)]⟩) (fun ⟨k, g⟩ => l.length - k) ⟨0, _⟩ ⟨_, (LessS.weak (LessS.upd (LessS.upd (LessS.upd (LessS.upd (LessS.upd (LessS.upd (LessS.nil _) rfl) rfl) rfl) rfl) rfl) rfl) _), (Nat.zero_le _), _, (congrArg (St.mk _) (effM_eq (Has.cons rfl (Has.cons rfl Has.nil))).symm)⟩ ?_
   rintro ⟨k, g⟩ _ ⟨hi, m0, rfl⟩
   refine Wp.seqI ?_
   refine Wp.regI I0.mono ?_
   refine GL.bin I0.mono rfl ?_
   refine GL.doneF ?_
   refine goOn ?_
   refine Wp.seqI ?_
   refine Wp.condI rfl (fun h21 => ?_) (fun h21 => ?_)
   ·replace h21 := of_decide_eq_true h21
    refine Wp.skipI ?_
    refine goOn ?_
    refine Wp.seqI ?_
    refine Wp.blockI ?_
    refine Wp.seqI ?_
    refine Wp.regI I0.mono ?_
    refine GL.move I0.mono (by conv => lhs; whnf) ?_
    refine GL.indexAddrF I0.mono (sz := 1) rfl rfl rfl rfl (by omega) (by (rw [em_len]; omega)) (by intro e he; obtain ⟨a, -, rfl⟩ := List.mem_map.1 he; rfl) (by with_reducible exact Int.toNat_natCast _) ?_
    refine GL.loadF I0.mono rfl rfl (em_get (by omega)) rfl ?_
    refine GL.assign I0.mono (by conv => lhs; whnf) ?_
    refine GL.assign I0.mono (by conv => lhs; whnf) ?_
    refine GL.doneF ?_
    refine goOn ?_
    refine Wp.regD ?_
    refine GL.move I0.mono (by conv => lhs; whnf) ?_
    refine GL.loadW I0.mono (n := 4) rfl rfl rfl rfl (by simp) (by rfl) rfl rfl ?_
    refine GL.move I0.mono (by conv => lhs; whnf) ?_
    refine GL.move I0.mono (by conv => lhs; whnf) ?_
    refine GL.move I0.mono (by conv => lhs; whnf) ?_
    refine GL.indexAddr I0.mono (sz := 7) rfl rfl rfl rfl rfl rfl rfl rfl (by omega) (by omega) (by (conv => lhs; simp only [Nat.zero_add, Int.toNat_natCast])) ?_
    refine GL.loadW I0.mono (n := 7) rfl rfl rfl rfl (by simp) (em_get (by rw [headsK_len]; omega)) rfl rfl ?_
    rw [headsK_get i c l (Nat.le_refl k)]
    refine GL.move I0.mono (by conv => lhs; whnf) ?_
    refine GL.call0 I0.mono rfl (Frz.aggc (by exact Frz.pures rfl) (Frz.aggc (by exact Frz.pure rfl) (Frz.aggc (by exact Frz.pures rfl) (Frz.aggc (by exact Frz.pure rfl) (Frz.aggn))))) (rextend_ok i N hb hsd c (headOf i c (l.take k)) (fun h => ⟨(headOf_hi hb hsd c l hl k (by omega) h).l0, (headOf_hi hb hsd c l hl k (by omega) h).l1⟩) (l.getD k default)) rfl rfl (fun _ => rfl) ?_
    rw [← headOf_take i c (show k < l.length by omega)]
    refine GL.buildSlice0 I0.mono (sz := 7) (z := [LV.bool false, LV.int .i64 0, LV.int .i64 0, LV.int .i64 0, LV.int .u32 0, LV.int .u32 0, LV.int .i64 0]) (es := em nh [(headOf i c (l.take (k + 1)))]) rfl rfl rfl rfl (by decide) (by decide) (by decide) (FrzP.cons (S := []) (T := []) (Frz.pures rfl) rfl (by decide) rfl (FrzP.nil)) rfl ?_
    intro g34
    refine GL.append1 I0.mono (f := nh) (v := (headOf i c (l.take (k + 1)))) (sz := 7) (z := [.bool false, .int .i64 0, .int .i64 0, .int .i64 0, .int .u32 0, .int .u32 0, .int .i64 0]) rfl rfl rfl rfl rfl (by decide) (Nat.le_of_ble_eq_true rfl) rfl rfl rfl rfl rfl rfl rfl (headsK_len i c l k).symm rfl rfl rfl rfl rfl rfl rfl rfl (by omega) ?_
    rw [← headsK_succ]
    refine GL.assign I0.mono (by conv => lhs; whnf) ?_
    refine GL.doneT (by kernel_rfl) ?_
    refine blockX.normal ?_
    refine goOn ?_
    refine Wp.regI I0.mono ?_
    refine GL.addR I0.mono rfl rfl (by omega) ?_
    refine GL.move I0.mono (by conv => lhs; whnf) ?_
    refine GL.doneF ?_
    refine ⟨⟨k + 1, _⟩, (by dsimp only; omega), _, (LessS.weak (LessS.upd (LessS.upd (LessS.upd (LessS.upd (LessS.upd (LessS.upd (LessS.nil _) rfl) rfl) rfl) rfl) rfl) rfl) _), (by omega), _, (congrArg (St.mk _) (effM_eq (Has.cons rfl (Has.cons rfl Has.nil))).symm)⟩
   ·replace h21 := of_decide_eq_false h21
    obtain rfl : k = l.length := by omega
    refine Wp.exitI ?_
    refine thenX.exit ?_
    refine thenX.exit ?_
    refine blockX.out ?_
    refine goOn ?_
    refine Wp.seqI ?_
    refine Wp.regI I0.mono ?_
    refine GL.move I0.mono (by conv => lhs; whnf) ?_
    refine GL.assign I0.mono (by conv => lhs; whnf) ?_
    refine GL.doneF ?_
    refine goOn ?_
    refine Wp.retI ?_
    refine RetX.ret ?_
    refine ⟨_, _, _, _, .cons (.tmp rfl) .nil, (by exact Exp.slo rfl rfl rfl rfl (by rw [em_len, headsK_len]; omega)), (by decide), by simp, ?_⟩
    first
    | (rw [heads, isT0_between, if_neg (by rw [nbf h13]; decide)]; rfl)
    | (rw [heads, isT0_between, if_pos (nbt h13)]; rfl)

set_option maxRecDepth 100000 in
set_option maxHeartbeats 4000000 in
theorem rtails_ok (i : Inst) (N : Nat) (hb : Sb i N) (hp : Sp i) (hsd : Sd i) (c : Int) (l : List Int) (hl : l.length ≤ 1000) : CallsV Try.prog 45 [ei i, .int .i64 c, .sl (em ni l)] (.slo 8 (em nl (tails i c l))) := by
  refine CallsR.intro (I0.sound _) mix Try.func45 rfl rfl (by simp [Try.f45]) (by kernel_rfl) (nb := 0) ?_
  unfold Try.f45
  refine Wp.seqI ?_
  refine Wp.regI I0.mono ?_
  refine GL.box I0.mono (by conv => lhs; whnf) rfl (n := 4) rfl rfl ?_
  intro g3
  refine GL.assign I0.mono (by conv => lhs; whnf) ?_
  refine GL.doneF ?_
  refine goOn ?_
  refine Wp.seqI ?_
  refine Wp.seqI ?_
  refine Wp.regI I0.mono ?_
  refine GL.loadW I0.mono (n := 4) rfl rfl rfl rfl (by simp) (by rfl) rfl rfl ?_
  refine GL.move I0.mono (by conv => lhs; whnf) ?_
  refine GL.call0 I0.mono rfl (Frz.aggc (by exact Frz.pures rfl) (Frz.aggc (by exact Frz.pure rfl) (Frz.aggn))) (rcar_ok i hb.sq.short _) rfl rfl (fun _ => rfl) ?_
  refine GL.un I0.mono rfl ?_
  refine GL.doneF ?_
  refine goOn ?_
  refine Wp.condI rfl (fun h12 => ?_) (fun h12 => ?_)
  ·skip
   refine Wp.seqI ?_
   refine Wp.regI I0.mono ?_
   refine GL.assign I0.mono (by conv => lhs; whnf) ?_
   refine GL.doneF ?_
   refine goOn ?_
   refine Wp.retI ?_
   refine thenX.ret ?_
   refine RetX.ret ?_
   refine ⟨_, _, _, _, .cons (.tmp rfl) .nil, (by exact Exp.nils (sz := 8)), (by decide), by simp, ?_⟩
   first
   | (rw [tails, isT0_between, if_neg (by rw [nbf h12]; decide)]; rfl)
   | (rw [tails, isT0_between, if_pos (nbt h12)]; rfl)
  ·skip
   refine Wp.skipI ?_
   refine goOn ?_
   refine Wp.seqI ?_
   refine Wp.regI I0.mono ?_
   refine GL.move I0.mono (by conv => lhs; whnf) ?_
   refine GL.lenF I0.mono rfl rfl (em_len _ _) ?_
   refine GL.addR I0.mono rfl rfl (by omega) ?_
   refine GL.makeSlice I0.mono (j := l.length + 1) (sz := 8) (z := [.bool false, .int .i64 0, .int .i64 0, .int .i64 0, .int .i64 0, .int .u32 0, .int .u32 0, .int .i64 0]) rfl rfl rfl rfl (by decide) rfl rfl (by omega) (by omega) (Nat.le_of_ble_eq_true rfl) (by omega) ?_
   intro g16
   rw [show List.replicate (l.length + 1) (List.map pureC [.bool false, .int .i64 0, .int .i64 0, .int .i64 0, .int .i64 0, .int .u32 0, .int .u32 0, .int .i64 0]) = em nl (tailsK i c l (l.length + 1)) from by rw [tailsK_zero, em_replicate]; rfl]
   refine GL.assign I0.mono (by conv => lhs; whnf) ?_
   refine GL.doneF ?_
   refine goOn ?_
   refine Wp.seqI ?_
   refine Wp.regI I0.mono ?_
   refine GL.move I0.mono (by conv => lhs; whnf) ?_
   refine GL.move I0.mono (by conv => lhs; whnf) ?_
   refine GL.lenF I0.mono rfl rfl (em_len _ _) ?_
   refine GL.loadW I0.mono (n := 4) rfl rfl rfl rfl (by simp) (by rfl) rfl rfl ?_
   refine GL.move I0.mono (by conv => lhs; whnf) ?_
   refine GL.call0 I0.mono rfl (Frz.aggc (by exact Frz.pures rfl) (Frz.aggc (by exact Frz.pure rfl) (Frz.aggn))) (rend_ok i hb.sq.short c) rfl rfl (fun _ => rfl) ?_
   rw [show endT i c = tailOf i c (l.drop l.length) by rw [List.drop_length]; rfl]
   refine GL.indexAddr I0.mono (sz := 8) rfl rfl rfl rfl rfl rfl rfl rfl (by omega) (by omega) (by (conv => lhs; simp only [Nat.zero_add, Int.toNat_natCast])) ?_
   refine GL.storeS I0.mono (n := 8) (es' := em nl (tailsK i c l l.length)) rfl rfl rfl rfl rfl rfl (em_get (by rw [tailsK_len]; omega)) rfl rfl rfl rfl (Nat.le_of_ble_eq_true rfl) rfl ((em_set nl _ _ (tailOf i c (l.drop l.length))).trans (congrArg (em nl) (tailsK_set i c l (Nat.le_refl _)))) ?_
   refine GL.doneF ?_
   refine goOn ?_
   refine Wp.seqI ?_
   refine Wp.seqI ?_
   refine Wp.regI I0.mono ?_
   refine GL.move I0.mono (by conv => lhs; whnf) ?_
   refine GL.lenF I0.mono rfl rfl (em_len _ _) ?_
   refine GL.subR I0.mono rfl rfl (by omega) ?_
   refine GL.assign I0.mono (by conv => lhs; whnf) ?_
   refine GL.doneF ?_
   refine goOn ?_
   refine Wp.blockI ?_
   refine Wp.loopI I0.mono (α := Nat × Nat) (fun ⟨a, g⟩ st => (a ≤ l.length) ∧ ∃ m0, st = ⟨(updS (updS (updS (updS (updS (fun _ => LV.undef) 1 (.int .i64 c)) 2 (.sl (em ni l))) 3 (.ref 192 g3 0 0)) 7 (.own 1024 g 0 (l.length + 1) none)) 8 (.int .i64 ((a : Int) - 1))), effM m0 [(192, ⟨g3, false, .var, 4, [ic i]⟩), (1024, ⟨g, false, .slc, 8, em nl (tailsK i c l a)⟩)]⟩) (fun ⟨a, g⟩ => a) ⟨l.length, _⟩ ⟨_, (LessS.weak (LessS.upd (LessS.upd (LessS.upd (LessS.upd (LessS.upd (LessS.nil _) rfl) rfl) rfl) rfl) rfl) _), (Nat.le_refl _), _, (congrArg (St.mk _) (effM_eq (Has.cons rfl (Has.cons rfl Has.nil))).symm)⟩ ?_
   rintro ⟨a, g⟩ _ ⟨hi, m0, rfl⟩
   refine Wp.seqI ?_
   refine Wp.seqI ?_
   refine Wp.regI I0.mono ?_
   refine GL.move I0.mono (by conv => lhs; whnf) ?_
   refine GL.bin I0.mono rfl ?_
   refine GL.doneF ?_
   refine goOn ?_
   refine Wp.condI rfl (fun h28 => ?_) (fun h28 => ?_)
   ·replace h28 := of_decide_eq_true h28
    obtain ⟨b, rfl⟩ : ∃ b, a = b + 1 := ⟨a - 1, by omega⟩
    rw [show (((b + 1 : Nat) : Int) - 1) = (b : Int) by omega]
    refine Wp.skipI ?_
    refine goOn ?_
    refine Wp.seqI ?_
    refine Wp.blockI ?_
    refine Wp.regD ?_
    refine GL.move I0.mono (by conv => lhs; whnf) ?_
    refine GL.move I0.mono (by conv => lhs; whnf) ?_
    refine GL.loadW I0.mono (n := 4) rfl rfl rfl rfl (by simp) (by rfl) rfl rfl ?_
    refine GL.move I0.mono (by conv => lhs; whnf) ?_
    refine GL.move I0.mono (by conv => lhs; whnf) ?_
    refine GL.move I0.mono (by conv => lhs; whnf) ?_
    refine GL.indexAddrF I0.mono (sz := 1) rfl rfl rfl rfl (by omega) (by (rw [em_len]; omega)) (by intro e he; obtain ⟨a, -, rfl⟩ := List.mem_map.1 he; rfl) (by with_reducible exact Int.toNat_natCast _) ?_
    refine GL.loadF I0.mono rfl rfl (em_get (by omega)) rfl ?_
    refine GL.move I0.mono (by conv => lhs; whnf) ?_
    refine GL.move I0.mono (by conv => lhs; whnf) ?_
    refine GL.addR I0.mono rfl rfl (by omega) ?_
    rw [show ((b : Int) + 1) = ((b + 1 : Nat) : Int) by omega]
    refine GL.indexAddr I0.mono (sz := 8) rfl rfl rfl rfl rfl rfl rfl rfl (by omega) (by omega) (by (conv => lhs; simp only [Nat.zero_add, Int.toNat_natCast])) ?_
    refine GL.loadW I0.mono (n := 8) rfl rfl rfl rfl (by simp) (em_get (by rw [tailsK_len]; omega)) rfl rfl ?_
    rw [tailsK_get i c l (show b + 1 ≤ l.length by omega), if_neg (Nat.lt_irrefl _)]
    refine GL.call0 I0.mono rfl (Frz.aggc (by exact Frz.pures rfl) (Frz.aggc (by exact Frz.pure rfl) (Frz.aggc (by exact Frz.pure rfl) (Frz.aggc (by exact Frz.pures rfl) (Frz.aggn))))) (rbefore_ok i N hb hsd c (l.getD b default) (tailOf i c (l.drop (b + 1))) (fun h => ⟨(tailOf_ti hb hp hsd c (l.drop (b + 1)) (by rw [List.length_drop]; omega) h).f0, (tailOf_ti hb hp hsd c (l.drop (b + 1)) (by rw [List.length_drop]; omega) h).f1⟩)) rfl rfl (fun _ => rfl) ?_
    rw [← tailOf_drop i c (show b < l.length by omega)]
    refine GL.indexAddr I0.mono (sz := 8) rfl rfl rfl rfl rfl rfl rfl rfl (by omega) (by omega) (by (conv => lhs; simp only [Nat.zero_add, Int.toNat_natCast])) ?_
    refine GL.storeS I0.mono (n := 8) (es' := em nl (tailsK i c l b)) rfl rfl rfl rfl rfl rfl (em_get (by rw [tailsK_len]; omega)) rfl rfl rfl rfl (Nat.le_of_ble_eq_true rfl) rfl ((em_set nl _ _ (tailOf i c (l.drop b))).trans (congrArg (em nl) (tailsK_set i c l (show b ≤ l.length by omega)))) ?_
    refine GL.doneT (by kernel_rfl) ?_
    refine blockX.normal ?_
    refine goOn ?_
    refine Wp.regI I0.mono ?_
    refine GL.move I0.mono (by conv => lhs; whnf) ?_
    refine GL.subR I0.mono rfl rfl (by omega) ?_
    refine GL.assign I0.mono (by conv => lhs; whnf) ?_
    refine GL.doneF ?_
    refine ⟨⟨b, _⟩, (by dsimp only; omega), _, (LessS.weak (LessS.upd (LessS.upd (LessS.upd (LessS.upd (LessS.upd (LessS.nil _) rfl) rfl) rfl) rfl) rfl) _), (by omega), _, (congrArg (St.mk _) (effM_eq (Has.cons rfl (Has.cons rfl Has.nil))).symm)⟩
   ·replace h28 := of_decide_eq_false h28
    obtain rfl : a = 0 := by omega
    refine Wp.exitI ?_
    refine thenX.exit ?_
    refine thenX.exit ?_
    refine blockX.out ?_
    refine goOn ?_
    refine Wp.seqI ?_
    refine Wp.regI I0.mono ?_
    refine GL.move I0.mono (by conv => lhs; whnf) ?_
    refine GL.assign I0.mono (by conv => lhs; whnf) ?_
    refine GL.doneF ?_
    refine goOn ?_
    refine Wp.retI ?_
    refine RetX.ret ?_
    refine ⟨_, _, _, _, .cons (.tmp rfl) .nil, (by exact Exp.slo rfl rfl rfl rfl (by rw [em_len, tailsK_len]; omega)), (by decide), by simp, ?_⟩
    first
    | (rw [tails, isT0_between, if_neg (by rw [nbf h12]; decide)]; rfl)
    | (rw [tails, isT0_between, if_pos (nbt h12)]; rfl)

end Go.Proofs.Ytpepcfombibpeaa
