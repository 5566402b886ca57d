/- The law PlanForms, walked. -/
import Derived.Test.YtffnlhjdlhpmjaaProg
import Derived.Test.YtffnlhjdlhpmjaaLj
import Derived.KernelRfl
set_option linter.all false
namespace Go.Proofs.Ytffnlhjdlhpmjaa
open Go.Proofs Mv
def iW : Inst := ⟨[⟨0, 0, 5⟩], [⟨0, 0, 5, 0⟩], [], [[0, 1], [1, 0]]⟩
def pW8 : Plan := ⟨[[]], [-1, -1], [-1], [0], [0, 0], [0], 0⟩
theorem shW : iW.Short := ⟨by unfold Short; decide, by unfold Short; decide, by unfold Short; decide, by unfold Short; decide, by show ∀ r ∈ _, List.length r < 1073741824; decide⟩
theorem newW : CallsV Try.prog 39 [ei iW] (.agg (kp pW8)) := (show newP iW = pW8 by decide +kernel) ▸ new_f iW shW
theorem where_c (p : Plan) (hp : okPb p = true) (s : Int) {a b : Int} (h : whereR p.routes s = (a, b)) : CallsV Try.prog 42 [.agg (kp p), .int .i64 s] (.tup [.int .i64 a, .int .i64 b]) := by
  have := where_ok p (okP_of hp) s
  rwa [h] at this
theorem unass_c (p : Plan) (hp : okPb p = true) {l : List Int} (h : unassL p.routes p.lock.length = l) : CallsV Try.prog 44 [.agg (kp p)] (.sl (em ni l)) := h ▸ (unass_ok p (okP_of hp)).freeze rfl
theorem sI_ok (l : List Int) (hl : Short l) : CallsV Try.prog 24 [.sl (em ni l), .sl (em ni l)] (.bool true) := by
  have := same_ok l l hl hl
  rwa [decide_eq_true rfl] at this

set_option maxRecDepth 100000 in
set_option maxHeartbeats 4000000 in
theorem wakes08_ok : CallsV Try.prog 46 [] (.bool true) := by
  refine CallsR.intro (I0.sound _) mix Try.func46 rfl rfl (by simp [Try.f46]) (by kernel_rfl) (nb := 0) ?_
  unfold Try.f46
  refine Wp.seqI ?_
  refine Wp.regI I0.mono ?_
  refine GL.assign I0.mono (by conv => lhs; whnf) ?_
  refine GL.doneF ?_
  refine goOn ?_
  refine Wp.seqI ?_
  refine Wp.regI I0.mono ?_
  refine GL.buildS I0.mono (z := [LV.int .i64 0, LV.int .i64 0, LV.int .i64 0]) (cs := [_, _, _]) (n := 3) rfl rfl rfl (EvS.cons (by conv => lhs; whnf) (EvS.nil)) rfl rfl ?_
  refine GL.buildSlice0 I0.mono (sz := 3) (z := [LV.int .i64 0, LV.int .i64 0, LV.int .i64 0]) (es := em nc [⟨0, 0, 5⟩]) rfl rfl rfl rfl (by decide) (by decide) (by decide) (FrzP.cons (S := []) (T := []) (Frz.pures rfl) rfl (by decide) rfl (FrzP.nil)) rfl ?_
  intro g6
  refine GL.buildS I0.mono (z := [LV.int .i64 0, LV.int .i64 0, LV.int .i64 0, LV.int .i64 0]) (cs := [_, _, _, _]) (n := 4) rfl rfl rfl (EvS.cons (by conv => lhs; whnf) (EvS.nil)) rfl rfl ?_
  refine GL.buildSlice0 I0.mono (sz := 4) (z := [LV.int .i64 0, LV.int .i64 0, LV.int .i64 0, LV.int .i64 0]) (es := em ns [⟨0, 0, 5, 0⟩]) rfl rfl rfl rfl (by decide) (by decide) (by decide) (FrzP.cons (S := []) (T := []) (Frz.pures rfl) rfl (by decide) rfl (FrzP.nil)) rfl ?_
  intro g8
  refine GL.buildSlice0 I0.mono (sz := 1) (z := [LV.int .i64 0]) (es := em ni [0, 1]) rfl rfl rfl rfl (by decide) (by decide) (by decide) (FrzP.cons (S := []) (T := []) (Frz.aggc (S := []) (T := []) (Frz.pure rfl) Frz.aggn) rfl (by decide) rfl (FrzP.cons (S := []) (T := []) (Frz.aggc (S := []) (T := []) (Frz.pure rfl) Frz.aggn) rfl (by decide) rfl (FrzP.nil))) rfl ?_
  intro g9
  refine GL.buildSlice0 I0.mono (sz := 1) (z := [LV.int .i64 0]) (es := em ni [1, 0]) rfl rfl rfl rfl (by decide) (by decide) (by decide) (FrzP.cons (S := []) (T := []) (Frz.aggc (S := []) (T := []) (Frz.pure rfl) Frz.aggn) rfl (by decide) rfl (FrzP.cons (S := []) (T := []) (Frz.aggc (S := []) (T := []) (Frz.pure rfl) Frz.aggn) rfl (by decide) rfl (FrzP.nil))) rfl ?_
  intro g10
  refine GL.buildSliceM I0.mono (sz := 1) (z := [LV.nils]) (es := em nr [[0, 1], [1, 0]]) rfl rfl rfl rfl (by decide) (by decide) (by decide) (FrzP.cons (Frz.aggc (by exact Frz.whole rfl rfl rfl rfl (by exact em_len _ _)) Frz.aggn) rfl (by decide) rfl (FrzP.cons (Frz.aggc (by exact Frz.whole rfl rfl rfl rfl (by exact em_len _ _)) Frz.aggn) rfl (by decide) rfl (FrzP.nil))) rfl rfl ?_
  intro g11
  refine GL.buildS I0.mono (z := [LV.nils, LV.nils, LV.nils, LV.nils]) (cs := [_, _, _, _]) (n := 4) rfl rfl rfl (EvS.cons (by conv => lhs; whnf) (EvS.cons (by conv => lhs; whnf) (EvS.cons (by conv => lhs; whnf) (EvS.nil)))) rfl rfl ?_
  refine GL.alloc I0.mono (cs := [LV.nils, LV.nils, LV.nils, LV.nils]) rfl rfl ?_
  intro g1
  refine GL.storeW I0.mono (n := 4) rfl rfl rfl rfl rfl rfl rfl (by conv => lhs; whnf) rfl rfl rfl ?_
  refine GL.doneF ?_
  refine goWeak (Weak.mark _ _ [384, 512, 704]) ?_
  refine Wp.seqI ?_
  refine Wp.regI I0.mono ?_
  refine GL.loadW I0.mono (n := 4) rfl rfl rfl rfl (by simp) rfl rfl rfl ?_
  refine GL.call0 I0.mono rfl (Frz.aggc (by exact (Frz.aggc (by exact Frz.whole rfl rfl rfl rfl (by exact em_len _ _)) (Frz.aggc (by exact Frz.whole rfl rfl rfl rfl (by exact em_len _ _)) (Frz.aggc (by exact Frz.nils) (Frz.aggc (by exact Frz.whole rfl rfl rfl rfl (by exact em_len _ _)) Frz.aggn))))) Frz.aggn) (newW) rfl rfl (fun _ => rfl) ?_
  refine GL.alloc I0.mono (cs := [LV.nils, LV.nils, LV.nils, LV.nils, LV.nils, LV.nils, LV.int .i64 0]) rfl rfl ?_
  intro g2
  refine GL.storeW I0.mono (n := 7) rfl rfl rfl rfl rfl rfl rfl (by conv => lhs; whnf) rfl rfl rfl ?_
  refine GL.doneF ?_
  refine goOn ?_
  refine Wp.seqI ?_
  refine Wp.regI I0.mono ?_
  refine GL.loadW I0.mono (n := 7) rfl rfl rfl rfl (by simp) rfl rfl rfl ?_
  refine GL.callFl I0.mono rfl (Frz.aggc (by exact Frz.pures rfl) (Frz.aggc (Frz.pure rfl) Frz.aggn)) (where_c pW8 rfl 1 (a := -1) (b := -1) (by decide)) (flat_ii _ _) rfl rfl ?_
  refine GL.move I0.mono (by conv => lhs; whnf) ?_
  refine GL.extract I0.mono rfl rfl ?_
  refine GL.extract I0.mono rfl rfl ?_
  refine GL.assign I0.mono (by conv => lhs; whnf) ?_
  refine GL.assign I0.mono (by conv => lhs; whnf) ?_
  refine GL.doneF ?_
  refine goOn ?_
  refine Wp.seqI ?_
  refine Wp.regI I0.mono ?_
  refine GL.move I0.mono (by conv => lhs; whnf) ?_
  refine GL.bin I0.mono (v := .bool true) (by kernel_rfl) ?_
  refine GL.move I0.mono (by conv => lhs; whnf) ?_
  refine GL.guardT rfl ?_
  refine GL.move I0.mono (by conv => lhs; whnf) ?_
  refine GL.guardT rfl ?_
  refine GL.bin I0.mono (v := .bool true) (by kernel_rfl) ?_
  refine GL.pick I0.mono rfl (by conv => lhs; whnf) ?_
  refine GL.move I0.mono (by conv => lhs; whnf) ?_
  refine GL.guardT rfl ?_
  refine GL.fieldAddr I0.mono (o := 0) rfl rfl rfl rfl (by conv => lhs; whnf) ?_
  refine GL.guardT rfl ?_
  refine GL.load I0.mono rfl rfl rfl rfl (by simp) rfl rfl ?_
  refine GL.guardT rfl ?_
  refine GL.lenF I0.mono rfl rfl rfl ?_
  refine GL.guardT rfl ?_
  refine GL.bin I0.mono (v := .bool true) (by kernel_rfl) ?_
  refine GL.pick I0.mono rfl (by conv => lhs; whnf) ?_
  refine GL.move I0.mono (by conv => lhs; whnf) ?_
  refine GL.guardT rfl ?_
  refine GL.fieldAddr I0.mono (o := 1) rfl rfl rfl rfl (by conv => lhs; whnf) ?_
  refine GL.guardT rfl ?_
  refine GL.load I0.mono rfl rfl rfl rfl (by simp) rfl rfl ?_
  refine GL.guardT rfl ?_
  refine GL.lenF I0.mono rfl rfl rfl ?_
  refine GL.guardT rfl ?_
  refine GL.bin I0.mono (v := .bool true) (by kernel_rfl) ?_
  refine GL.pick I0.mono rfl (by conv => lhs; whnf) ?_
  refine GL.move I0.mono (by conv => lhs; whnf) ?_
  refine GL.guardT rfl ?_
  refine GL.loadW I0.mono (n := 7) rfl rfl rfl rfl (by simp) rfl rfl rfl ?_
  refine GL.guardT rfl ?_
  refine GL.call0 I0.mono rfl (Frz.aggc (by exact Frz.pures rfl) Frz.aggn) (unass_c pW8 rfl (l := [1]) (by decide)) rfl rfl (fun _ => rfl) ?_
  refine GL.guardT rfl ?_
  refine GL.buildSlice0 I0.mono (sz := 1) (z := [LV.int .i64 0]) (es := em ni [1]) rfl rfl rfl rfl (by decide) (by decide) (by decide) (FrzP.cons (S := []) (T := []) (Frz.aggc (S := []) (T := []) (Frz.pure rfl) Frz.aggn) rfl (by decide) rfl (FrzP.nil)) rfl ?_
  intro g41
  refine GL.guardT rfl ?_
  refine GL.callFl I0.mono rfl (Frz.aggc (Frz.pure rfl) (Frz.aggc (by exact Frz.whole rfl rfl rfl rfl rfl) Frz.aggn)) (sI_ok [1] (by unfold Short; decide)) (.sca rfl) rfl rfl ?_
  refine GL.pick I0.mono rfl (by conv => lhs; whnf) ?_
  refine GL.assign I0.mono (by conv => lhs; whnf) ?_
  refine GL.doneF ?_
  refine goOn ?_
  refine Wp.retI ?_
  refine RetX.ret ?_
  refine ⟨_, _, _, _, .cons (.tmp rfl) .nil, .frz (.pure rfl), List.nodup_nil, by simp, ?_⟩
  rfl

def iP : Inst := ⟨[⟨9, 0, 99⟩, ⟨9, 0, 99⟩], [⟨0, 0, 99, 0⟩, ⟨0, 0, 99, 0⟩, ⟨0, 0, 99, 0⟩], [], [[0, 1, 2, 3], [1, 0, 4, 5], [2, 4, 0, 6], [3, 5, 6, 0]]⟩
def pN : Plan := ⟨[[], []], [-1, -1, -1, -1], [-1, -1], [0, 0], [0, 0, 0, 0], [0, 0], 0⟩
def pA : Plan := ⟨[[1, 2], []], [-1, -1, 3, -1], [-1, -1], [1, 0], [0, 1, 1, 0], [0, 0], 1⟩
def pQ : Plan := ⟨[[2], [1]], [-1, -1, 3, -1], [-1, 0], [2, 1], [0, 1, 1, 0], [0, 1], 1⟩
def d1P : Delta := ⟨[⟨0, [], [1, 2]⟩], [⟨2, -1, 3⟩], []⟩
def d2P : Delta := ⟨[⟨0, [1, 2], [2]⟩, ⟨1, [], [1]⟩], [], [⟨1, -1, 0⟩]⟩
theorem shP : iP.Short := ⟨by unfold Short; decide, by unfold Short; decide, by unfold Short; decide, by unfold Short; decide, by show ∀ r ∈ _, List.length r < 1073741824; decide⟩
theorem newP_c : CallsV Try.prog 39 [ei iP] (.agg (kp pN)) := (show newP iP = pN by decide +kernel) ▸ new_f iP shP
theorem sort2 : sorted [1, 2] = [1, 2] := sorted_of (List.Perm.refl _) (by decide)
theorem sort3 : sorted [1, 2, 2] = [1, 2, 2] := sorted_of (List.Perm.refl _) (by decide)
theorem mv1 : movedL d1P = [1, 2] := by
  have h : movedL d1P = sorted [1, 2] := by
    unfold movedL
    congr 1
  rw [h, sort2]
theorem mp1 : movesP d1P = [1, 2] := by
  have h : movesP d1P = compactF (sorted [1, 2, 2]) := by
    unfold movesP
    rw [mv1]
    rfl
  rw [h, sort3]
  decide
theorem mv2 : movedL d2P = [] := by
  have h : movedL d2P = sorted [] := by
    unfold movedL
    congr 1
  rw [h, sorted_nil]
theorem mp2 : movesP d2P = [] := by
  have h : movesP d2P = compactF (sorted []) := by
    unfold movesP
    rw [mv2]
    rfl
  rw [h, sorted_nil]
  rfl
theorem cnt1 : countP (doneP pN d1P) d1P = pA := by
  unfold countP
  rw [mp1, mv1]
  decide
theorem cnt2 : countP (doneP pA d2P) d2P = pQ := by
  unfold countP
  rw [mp2, mv2]
  decide
theorem apply_good (p : Plan) (hp : okPb p = true) (d : Delta) (hd : OkD d) (hw : p.routes.length ≤ p.ice.length) (ht : tidyD d = d) {q : Plan} (h1 : checkD d = false) (h2 : thereB p d = true) (h3 : onceB (doneP p d).routes = true) (h4 : asB p d = true) (hin : InB (doneP p d) d) (hq : countP (doneP p d) d = q) : CallsV Try.prog 40 [.agg (kp p), .agg (kd d)] (.tup [.agg (kp q), .int .i64 0]) := by
  have h := (apply_ok p (okP_of hp) d d hd hd ht hw fun _ _ _ _ => hin).freeze rfl
  have e : applyP p d d = (q, 0) := by
    unfold applyP
    rw [if_neg (by rw [h1, h2]; simp), if_neg (by rw [h3]; simp), if_neg (by rw [h4]; simp), hq]
  rw [e] at h
  exact h
theorem apply_bad (p : Plan) (hp : okPb p = true) (d : Delta) (hd : OkD d) (hw : p.routes.length ≤ p.ice.length) {e : Int} (h : (checkD d = true ∨ thereB p d = false) ∧ e = 1 ∨ ((checkD d = false ∧ thereB p d = true) ∧ onceB (doneP p d).routes = false ∧ e = 1) ∨ ((checkD d = false ∧ thereB p d = true) ∧ onceB (doneP p d).routes = true ∧ asB p d = false ∧ e = 15)) : CallsV Try.prog 40 [.agg (kp p), .agg (kd d)] (.tup [.agg (kp zeroP), .int .i64 e]) := by
  have e1 : (checkD d = false → thereB p d = true → onceB (doneP p d).routes = true → asB p d = true → InB (doneP p d) (tidyD d)) ∧ applyP p d (tidyD d) = (zeroP, e) := by
    unfold applyP
    rcases h with ⟨h, rfl⟩ | ⟨⟨a1, a2⟩, a3, rfl⟩ | ⟨⟨a1, a2⟩, a3, a4, rfl⟩
    · refine ⟨fun c1 c2 => ?_, if_pos h⟩
      rcases h with h | h
      · rw [h] at c1; cases c1
      · rw [h] at c2; cases c2
    · exact ⟨fun _ _ c => (by rw [a3] at c; cases c), by rw [if_neg (by rw [a1, a2]; simp), if_pos a3]⟩
    · exact ⟨fun _ _ _ c => (by rw [a4] at c; cases c), by rw [if_neg (by rw [a1, a2]; simp), if_neg (by rw [a3]; simp), if_pos a4]⟩
  have h2 := (apply_ok p (okP_of hp) d _ hd (okD_tidy hd) rfl hw e1.1).freeze rfl
  rw [e1.2] at h2
  exact h2
theorem ap1 : CallsV Try.prog 40 [.agg (kp pN), .agg (kd d1P)] (.tup [.agg (kp pA), .int .i64 0]) := apply_good pN rfl d1P (okD_of rfl) (by decide) (by decide) (by decide) (by decide) (by decide) (by decide) ⟨by decide, by decide, by rw [mp1]; decide⟩ cnt1
theorem ap2 : CallsV Try.prog 40 [.agg (kp pA), .agg (kd d2P)] (.tup [.agg (kp pQ), .int .i64 0]) := apply_good pA rfl d2P (okD_of rfl) (by decide) (by decide) (by decide) (by decide) (by decide) (by decide) ⟨by decide, by decide, by rw [mp2]; decide⟩ cnt2
theorem ex_ok (p : Plan) (hp : okPb p = true) (h : exactB p p = true) : CallsV Try.prog 41 [.agg (kp p), .agg (kp p)] (.bool true) := h ▸ exact_ok p p (okP_of hp) (okP_of hp)
structure PCase where
  d : Delta
  e : Int
deriving Inhabited
def kpc (c : PCase) : List LV := [.sl (em kt c.d.turns), .sl (em kh c.d.locks), .sl (em kh c.d.ices), .int .i64 c.e]
def casesP (m : Int) : List PCase := [⟨⟨[⟨1 + m, [], []⟩], [], []⟩, 1⟩, ⟨⟨[⟨-m, [], []⟩], [], []⟩, 1⟩, ⟨⟨[⟨0, [2], [3 + m]⟩], [], []⟩, 1⟩, ⟨⟨[⟨0, [2], [0]⟩], [], []⟩, 1⟩, ⟨⟨[⟨0, [2], [2, 1]⟩], [], []⟩, 1⟩, ⟨⟨[⟨0, [2], [3, 3]⟩], [], []⟩, 1⟩, ⟨⟨[⟨0, [1], [2]⟩], [], []⟩, 15⟩, ⟨⟨[⟨0, [], []⟩], [], []⟩, 15⟩,
  ⟨⟨[], [⟨0, -1, 1⟩], []⟩, 1⟩, ⟨⟨[], [⟨3 + m, -1, 1⟩], []⟩, 1⟩, ⟨⟨[], [⟨2, -1, 1⟩], []⟩, 15⟩, ⟨⟨[], [], [⟨1 + m, -1, 1⟩]⟩, 1⟩, ⟨⟨[], [], [⟨1, -1, 1⟩]⟩, 15⟩]
theorem carN (m : Int) (h : ¬ (0 ≤ m ∧ m < 2)) : carIn pQ m = false := by
  unfold carIn
  rw [← Bool.not_eq_true]
  simp only [Bool.and_eq_true, decide_eq_true_eq]
  exact h
theorem stopN (m : Int) (h : ¬ (1 ≤ m ∧ m < 4)) : stopIn pQ m = false := by
  unfold stopIn
  rw [← Bool.not_eq_true]
  simp only [Bool.and_eq_true, decide_eq_true_eq]
  exact h
theorem caseP_ok (m : Int) (hm : 1 ≤ m) (i : Nat) (hi : i < 13) : CallsV Try.prog 40 [.agg (kp pQ), .agg (kd ((casesP m).getD i default).d)] (.tup [.agg (kp zeroP), .int .i64 ((casesP m).getD i default).e]) := by
  have hw : pQ.routes.length ≤ pQ.ice.length := by decide
  match i, hi with
  | 0, _ => exact apply_bad pQ rfl _ (okD_of rfl) hw (.inl ⟨.inr (by show ((turnIn pQ _ && true) && _) = false; unfold turnIn; rw [carN _ (by show ¬ (0 ≤ 1 + m ∧ 1 + m < 2); omega)]; rfl), rfl⟩)
  | 1, _ => exact apply_bad pQ rfl _ (okD_of rfl) hw (.inl ⟨.inr (by show ((turnIn pQ _ && true) && _) = false; unfold turnIn; rw [carN _ (by show ¬ (0 ≤ -m ∧ -m < 2); omega)]; rfl), rfl⟩)
  | 2, _ => exact apply_bad pQ rfl _ (okD_of rfl) hw (.inl ⟨.inr (by show (((carIn pQ 0 && (stopIn pQ (3 + m) && true)) && true) && _) = false; rw [stopN _ (by omega)]; rfl), rfl⟩)
  | 3, _ => exact apply_bad pQ rfl ⟨[⟨0, [2], [0]⟩], [], []⟩ (okD_of rfl) hw (e := 1) (by decide +kernel)
  | 4, _ => exact apply_bad pQ rfl ⟨[⟨0, [2], [2, 1]⟩], [], []⟩ (okD_of rfl) hw (e := 1) (by decide +kernel)
  | 5, _ => exact apply_bad pQ rfl ⟨[⟨0, [2], [3, 3]⟩], [], []⟩ (okD_of rfl) hw (e := 1) (by decide +kernel)
  | 6, _ => exact apply_bad pQ rfl ⟨[⟨0, [1], [2]⟩], [], []⟩ (okD_of rfl) hw (e := 15) (by decide +kernel)
  | 7, _ => exact apply_bad pQ rfl ⟨[⟨0, [], []⟩], [], []⟩ (okD_of rfl) hw (e := 15) (by decide +kernel)
  | 8, _ => exact apply_bad pQ rfl ⟨[], [⟨0, -1, 1⟩], []⟩ (okD_of rfl) hw (e := 1) (by decide +kernel)
  | 9, _ => exact apply_bad pQ rfl _ (okD_of rfl) hw (.inl ⟨.inr (by show (true && ((stopIn pQ (3 + m) && true) && _)) = false; rw [stopN _ (by omega)]; rfl), rfl⟩)
  | 10, _ => exact apply_bad pQ rfl ⟨[], [⟨2, -1, 1⟩], []⟩ (okD_of rfl) hw (e := 15) (by decide +kernel)
  | 11, _ => exact apply_bad pQ rfl _ (okD_of rfl) hw (.inl ⟨.inr (by show (true && (true && (carIn pQ (1 + m) && true))) = false; rw [carN _ (by omega)]; rfl), rfl⟩)
  | 12, _ => exact apply_bad pQ rfl ⟨[], [], [⟨1, -1, 1⟩]⟩ (okD_of rfl) hw (e := 15) (by decide +kernel)
theorem costQ : CallsV Try.prog 43 [ei iP, .agg (kp pQ)] (.int .i64 6) := (show costP iP pQ.routes = 6 by decide +kernel) ▸ pcost_ok iP shP pQ (okP_of rfl)
theorem sameAQ : CallsV Try.prog 45 [.agg (kp pA), .agg (kp pQ)] (.bool false) := (show exactS pA pQ = false by decide) ▸ psame_ok pA pQ (okP_of rfl) (okP_of rfl)

set_option maxRecDepth 100000 in
set_option maxHeartbeats 4000000 in
theorem law_PlanForms (n : Int) : CallsV Try.prog 9 [.int .i64 n] (.bool true) := by
  refine CallsR.intro (I0.sound _) mix Try.func9 rfl rfl (by simp [Try.f9]) (by kernel_rfl) (nb := 0) ?_
  unfold Try.f9
  refine Wp.seqI ?_
  refine Wp.regI I0.mono ?_
  refine GL.assign I0.mono (by conv => lhs; whnf) ?_
  refine GL.doneF ?_
  refine goOn ?_
  refine Wp.seqI ?_
  refine Wp.regI I0.mono ?_
  refine GL.buildS I0.mono (z := [LV.int .i64 0, LV.int .i64 0, LV.int .i64 0]) (cs := [_, _, _]) (n := 3) rfl rfl rfl (EvS.cons (by conv => lhs; whnf) (EvS.cons (by conv => lhs; whnf) (EvS.nil))) rfl rfl ?_
  refine GL.buildS I0.mono (z := [LV.int .i64 0, LV.int .i64 0, LV.int .i64 0]) (cs := [_, _, _]) (n := 3) rfl rfl rfl (EvS.cons (by conv => lhs; whnf) (EvS.cons (by conv => lhs; whnf) (EvS.nil))) rfl rfl ?_
  refine GL.buildSlice0 I0.mono (sz := 3) (z := [LV.int .i64 0, LV.int .i64 0, LV.int .i64 0]) (es := em nc iP.cars) rfl rfl rfl rfl (by decide) (by decide) (by decide) (FrzP.cons (S := []) (T := []) (Frz.pures rfl) rfl (by decide) rfl (FrzP.cons (S := []) (T := []) (Frz.pures rfl) rfl (by decide) rfl (FrzP.nil))) rfl ?_
  intro g16
  refine GL.buildS I0.mono (z := [LV.int .i64 0, LV.int .i64 0, LV.int .i64 0, LV.int .i64 0]) (cs := [_, _, _, _]) (n := 4) rfl rfl rfl (EvS.cons (by conv => lhs; whnf) (EvS.nil)) rfl rfl ?_
  refine GL.buildS I0.mono (z := [LV.int .i64 0, LV.int .i64 0, LV.int .i64 0, LV.int .i64 0]) (cs := [_, _, _, _]) (n := 4) rfl rfl rfl (EvS.cons (by conv => lhs; whnf) (EvS.nil)) rfl rfl ?_
  refine GL.buildS I0.mono (z := [LV.int .i64 0, LV.int .i64 0, LV.int .i64 0, LV.int .i64 0]) (cs := [_, _, _, _]) (n := 4) rfl rfl rfl (EvS.cons (by conv => lhs; whnf) (EvS.nil)) rfl rfl ?_
  refine GL.buildSlice0 I0.mono (sz := 4) (z := [LV.int .i64 0, LV.int .i64 0, LV.int .i64 0, LV.int .i64 0]) (es := em ns iP.stops) rfl rfl rfl rfl (by decide) (by decide) (by decide) (FrzP.cons (S := []) (T := []) (Frz.pures rfl) rfl (by decide) rfl (FrzP.cons (S := []) (T := []) (Frz.pures rfl) rfl (by decide) rfl (FrzP.cons (S := []) (T := []) (Frz.pures rfl) rfl (by decide) rfl (FrzP.nil)))) rfl ?_
  intro g20
  refine GL.buildSlice0 I0.mono (sz := 1) (z := [LV.int .i64 0]) (es := em ni [0, 1, 2, 3]) rfl rfl rfl rfl (by decide) (by decide) (by decide) (FrzP.cons (S := []) (T := []) (Frz.aggc (S := []) (T := []) (Frz.pure rfl) Frz.aggn) rfl (by decide) rfl (FrzP.cons (S := []) (T := []) (Frz.aggc (S := []) (T := []) (Frz.pure rfl) Frz.aggn) rfl (by decide) rfl (FrzP.cons (S := []) (T := []) (Frz.aggc (S := []) (T := []) (Frz.pure rfl) Frz.aggn) rfl (by decide) rfl (FrzP.cons (S := []) (T := []) (Frz.aggc (S := []) (T := []) (Frz.pure rfl) Frz.aggn) rfl (by decide) rfl (FrzP.nil))))) rfl ?_
  intro g21
  refine GL.buildSlice0 I0.mono (sz := 1) (z := [LV.int .i64 0]) (es := em ni [1, 0, 4, 5]) rfl rfl rfl rfl (by decide) (by decide) (by decide) (FrzP.cons (S := []) (T := []) (Frz.aggc (S := []) (T := []) (Frz.pure rfl) Frz.aggn) rfl (by decide) rfl (FrzP.cons (S := []) (T := []) (Frz.aggc (S := []) (T := []) (Frz.pure rfl) Frz.aggn) rfl (by decide) rfl (FrzP.cons (S := []) (T := []) (Frz.aggc (S := []) (T := []) (Frz.pure rfl) Frz.aggn) rfl (by decide) rfl (FrzP.cons (S := []) (T := []) (Frz.aggc (S := []) (T := []) (Frz.pure rfl) Frz.aggn) rfl (by decide) rfl (FrzP.nil))))) rfl ?_
  intro g22
  refine GL.buildSlice0 I0.mono (sz := 1) (z := [LV.int .i64 0]) (es := em ni [2, 4, 0, 6]) rfl rfl rfl rfl (by decide) (by decide) (by decide) (FrzP.cons (S := []) (T := []) (Frz.aggc (S := []) (T := []) (Frz.pure rfl) Frz.aggn) rfl (by decide) rfl (FrzP.cons (S := []) (T := []) (Frz.aggc (S := []) (T := []) (Frz.pure rfl) Frz.aggn) rfl (by decide) rfl (FrzP.cons (S := []) (T := []) (Frz.aggc (S := []) (T := []) (Frz.pure rfl) Frz.aggn) rfl (by decide) rfl (FrzP.cons (S := []) (T := []) (Frz.aggc (S := []) (T := []) (Frz.pure rfl) Frz.aggn) rfl (by decide) rfl (FrzP.nil))))) rfl ?_
  intro g23
  refine GL.buildSlice0 I0.mono (sz := 1) (z := [LV.int .i64 0]) (es := em ni [3, 5, 6, 0]) rfl rfl rfl rfl (by decide) (by decide) (by decide) (FrzP.cons (S := []) (T := []) (Frz.aggc (S := []) (T := []) (Frz.pure rfl) Frz.aggn) rfl (by decide) rfl (FrzP.cons (S := []) (T := []) (Frz.aggc (S := []) (T := []) (Frz.pure rfl) Frz.aggn) rfl (by decide) rfl (FrzP.cons (S := []) (T := []) (Frz.aggc (S := []) (T := []) (Frz.pure rfl) Frz.aggn) rfl (by decide) rfl (FrzP.cons (S := []) (T := []) (Frz.aggc (S := []) (T := []) (Frz.pure rfl) Frz.aggn) rfl (by decide) rfl (FrzP.nil))))) rfl ?_
  intro g24
  refine GL.buildSliceM I0.mono (sz := 1) (z := [LV.nils]) (es := em nr iP.travel) rfl rfl rfl rfl (by decide) (by decide) (by decide) (FrzP.cons (Frz.aggc (by exact Frz.whole rfl rfl rfl rfl (by exact em_len _ _)) Frz.aggn) rfl (by decide) rfl (FrzP.cons (Frz.aggc (by exact Frz.whole rfl rfl rfl rfl (by exact em_len _ _)) Frz.aggn) rfl (by decide) rfl (FrzP.cons (Frz.aggc (by exact Frz.whole rfl rfl rfl rfl (by exact em_len _ _)) Frz.aggn) rfl (by decide) rfl (FrzP.cons (Frz.aggc (by exact Frz.whole rfl rfl rfl rfl (by exact em_len _ _)) Frz.aggn) rfl (by decide) rfl (FrzP.nil))))) rfl rfl ?_
  intro g25
  refine GL.buildS I0.mono (z := [LV.nils, LV.nils, LV.nils, LV.nils]) (cs := [_, _, _, _]) (n := 4) rfl rfl rfl (EvS.cons (by conv => lhs; whnf) (EvS.cons (by conv => lhs; whnf) (EvS.cons (by conv => lhs; whnf) (EvS.nil)))) rfl rfl ?_
  refine GL.alloc I0.mono (cs := [LV.nils, LV.nils, LV.nils, LV.nils]) rfl rfl ?_
  intro g3
  refine GL.storeW I0.mono (n := 4) rfl rfl rfl rfl rfl rfl rfl (by conv => lhs; whnf) rfl rfl rfl ?_
  refine GL.doneF ?_
  refine goWeak (Weak.mark _ _ [1024, 1280, 1600]) ?_
  refine Wp.seqI ?_
  refine Wp.regI I0.mono ?_
  refine GL.loadW I0.mono (n := 4) rfl rfl rfl rfl (by simp) rfl rfl rfl ?_
  refine GL.call0 I0.mono rfl (Frz.aggc (by exact (Frz.aggc (by exact Frz.whole rfl rfl rfl rfl (by exact em_len _ _)) (Frz.aggc (by exact Frz.whole rfl rfl rfl rfl (by exact em_len _ _)) (Frz.aggc (by exact Frz.nils) (Frz.aggc (by exact Frz.whole rfl rfl rfl rfl (by exact em_len _ _)) Frz.aggn))))) Frz.aggn) (newP_c) rfl rfl (fun _ => rfl) ?_
  refine GL.alloc I0.mono (cs := [LV.nils, LV.nils, LV.nils, LV.nils, LV.nils, LV.nils, LV.int .i64 0]) rfl rfl ?_
  intro g4
  refine GL.storeW I0.mono (n := 7) rfl rfl rfl rfl rfl rfl rfl (by conv => lhs; whnf) rfl rfl rfl ?_
  refine GL.doneF ?_
  refine goOn ?_
  refine Wp.seqI ?_
  refine Wp.regI I0.mono ?_
  refine GL.loadW I0.mono (n := 7) rfl rfl rfl rfl (by simp) rfl rfl rfl ?_
  refine GL.buildSlice0 I0.mono (sz := 1) (z := [LV.int .i64 0]) (es := em ni [1, 2]) rfl rfl rfl rfl (by decide) (by decide) (by decide) (FrzP.cons (S := []) (T := []) (Frz.aggc (S := []) (T := []) (Frz.pure rfl) Frz.aggn) rfl (by decide) rfl (FrzP.cons (S := []) (T := []) (Frz.aggc (S := []) (T := []) (Frz.pure rfl) Frz.aggn) rfl (by decide) rfl (FrzP.nil))) rfl ?_
  intro g31
  refine GL.buildS I0.mono (z := [LV.int .i64 0, LV.nils, LV.nils]) (cs := [_, _, _]) (n := 3) rfl rfl rfl (EvS.cons (by conv => lhs; whnf) (EvS.cons (by conv => lhs; whnf) (EvS.nil))) rfl rfl ?_
  refine GL.buildSliceM I0.mono (sz := 3) (z := [LV.int .i64 0, LV.nils, LV.nils]) (es := em kt d1P.turns) rfl rfl rfl rfl (by decide) (by decide) (by decide) (FrzP.cons (Frz.aggc (by exact Frz.pure rfl) (Frz.aggc (by exact Frz.nils) (Frz.aggc (by exact Frz.whole rfl rfl rfl rfl (by exact em_len _ _)) Frz.aggn))) rfl (by decide) rfl (FrzP.nil)) rfl rfl ?_
  intro g33
  refine GL.buildS I0.mono (z := [LV.int .i64 0, LV.int .i64 0, LV.int .i64 0]) (cs := [_, _, _]) (n := 3) rfl rfl rfl (EvS.cons (by conv => lhs; whnf) (EvS.cons (by conv => lhs; whnf) (EvS.cons (by conv => lhs; whnf) (EvS.nil)))) rfl rfl ?_
  refine GL.buildSlice0 I0.mono (sz := 3) (z := [LV.int .i64 0, LV.int .i64 0, LV.int .i64 0]) (es := em kh d1P.locks) rfl rfl rfl rfl (by decide) (by decide) (by decide) (FrzP.cons (S := []) (T := []) (Frz.pures rfl) rfl (by decide) rfl (FrzP.nil)) rfl ?_
  intro g35
  refine GL.buildS I0.mono (z := [LV.nils, LV.nils, LV.nils]) (cs := [_, _, _]) (n := 3) rfl rfl rfl (EvS.cons (by conv => lhs; whnf) (EvS.cons (by conv => lhs; whnf) (EvS.nil))) rfl rfl ?_
  refine GL.callMW I0.mono (W := [2112, 2240]) rfl (Frz.aggc (by exact Frz.pures rfl) (Frz.aggc (by exact (Frz.aggc (by exact Frz.whole rfl rfl rfl rfl (by exact em_len _ _)) (Frz.aggc (by exact Frz.whole rfl rfl rfl rfl (by exact em_len _ _)) (Frz.aggc (by exact Frz.nils) Frz.aggn)))) Frz.aggn)) (ap1) rfl rfl rfl (fun _ => rfl) ?_
  refine GL.move I0.mono (by conv => lhs; whnf) ?_
  refine GL.extract I0.mono rfl rfl ?_
  refine GL.extract I0.mono rfl rfl ?_
  refine GL.storeW I0.mono (n := 7) rfl rfl rfl rfl rfl rfl rfl (by conv => lhs; whnf) rfl rfl rfl ?_
  refine GL.assign I0.mono (by conv => lhs; whnf) ?_
  refine GL.doneF ?_
  refine goOn ?_
  refine Wp.seqI ?_
  refine Wp.regI I0.mono ?_
  refine GL.loadW I0.mono (n := 7) rfl rfl rfl rfl (by simp) rfl rfl rfl ?_
  refine GL.buildSlice0 I0.mono (sz := 1) (z := [LV.int .i64 0]) (es := em ni [1, 2]) rfl rfl rfl rfl (by decide) (by decide) (by decide) (FrzP.cons (S := []) (T := []) (Frz.aggc (S := []) (T := []) (Frz.pure rfl) Frz.aggn) rfl (by decide) rfl (FrzP.cons (S := []) (T := []) (Frz.aggc (S := []) (T := []) (Frz.pure rfl) Frz.aggn) rfl (by decide) rfl (FrzP.nil))) rfl ?_
  intro g42
  refine GL.buildSlice0 I0.mono (sz := 1) (z := [LV.int .i64 0]) (es := em ni [2]) rfl rfl rfl rfl (by decide) (by decide) (by decide) (FrzP.cons (S := []) (T := []) (Frz.aggc (S := []) (T := []) (Frz.pure rfl) Frz.aggn) rfl (by decide) rfl (FrzP.nil)) rfl ?_
  intro g43
  refine GL.buildS I0.mono (z := [LV.int .i64 0, LV.nils, LV.nils]) (cs := [_, _, _]) (n := 3) rfl rfl rfl (EvS.cons (by conv => lhs; whnf) (EvS.cons (by conv => lhs; whnf) (EvS.cons (by conv => lhs; whnf) (EvS.nil)))) rfl rfl ?_
  refine GL.buildSlice0 I0.mono (sz := 1) (z := [LV.int .i64 0]) (es := em ni [1]) rfl rfl rfl rfl (by decide) (by decide) (by decide) (FrzP.cons (S := []) (T := []) (Frz.aggc (S := []) (T := []) (Frz.pure rfl) Frz.aggn) rfl (by decide) rfl (FrzP.nil)) rfl ?_
  intro g45
  refine GL.buildS I0.mono (z := [LV.int .i64 0, LV.nils, LV.nils]) (cs := [_, _, _]) (n := 3) rfl rfl rfl (EvS.cons (by conv => lhs; whnf) (EvS.cons (by conv => lhs; whnf) (EvS.nil))) rfl rfl ?_
  refine GL.buildSliceM I0.mono (sz := 3) (z := [LV.int .i64 0, LV.nils, LV.nils]) (es := em kt d2P.turns) rfl rfl rfl rfl (by decide) (by decide) (by decide) (FrzP.cons (Frz.aggc (by exact Frz.pure rfl) (Frz.aggc (by exact Frz.whole rfl rfl rfl rfl (by exact em_len _ _)) (Frz.aggc (by exact Frz.whole rfl rfl rfl rfl (by exact em_len _ _)) Frz.aggn))) rfl (by decide) rfl (FrzP.cons (Frz.aggc (by exact Frz.pure rfl) (Frz.aggc (by exact Frz.nils) (Frz.aggc (by exact Frz.whole rfl rfl rfl rfl (by exact em_len _ _)) Frz.aggn))) rfl (by decide) rfl (FrzP.nil))) rfl rfl ?_
  intro g47
  refine GL.buildS I0.mono (z := [LV.int .i64 0, LV.int .i64 0, LV.int .i64 0]) (cs := [_, _, _]) (n := 3) rfl rfl rfl (EvS.cons (by conv => lhs; whnf) (EvS.cons (by conv => lhs; whnf) (EvS.cons (by conv => lhs; whnf) (EvS.nil)))) rfl rfl ?_
  refine GL.buildSlice0 I0.mono (sz := 3) (z := [LV.int .i64 0, LV.int .i64 0, LV.int .i64 0]) (es := em kh d2P.ices) rfl rfl rfl rfl (by decide) (by decide) (by decide) (FrzP.cons (S := []) (T := []) (Frz.pures rfl) rfl (by decide) rfl (FrzP.nil)) rfl ?_
  intro g49
  refine GL.buildS I0.mono (z := [LV.nils, LV.nils, LV.nils]) (cs := [_, _, _]) (n := 3) rfl rfl rfl (EvS.cons (by conv => lhs; whnf) (EvS.cons (by conv => lhs; whnf) (EvS.nil))) rfl rfl ?_
  refine GL.callMW I0.mono (W := [3008, 3136]) rfl (Frz.aggc (by exact Frz.pures rfl) (Frz.aggc (by exact (Frz.aggc (by exact Frz.whole rfl rfl rfl rfl (by exact em_len _ _)) (Frz.aggc (by exact Frz.nils) (Frz.aggc (by exact Frz.whole rfl rfl rfl rfl (by exact em_len _ _)) Frz.aggn)))) Frz.aggn)) (ap2) rfl rfl rfl (fun _ => rfl) ?_
  refine GL.move I0.mono (by conv => lhs; whnf) ?_
  refine GL.extract I0.mono rfl rfl ?_
  refine GL.extract I0.mono rfl rfl ?_
  refine GL.alloc I0.mono (cs := [LV.nils, LV.nils, LV.nils, LV.nils, LV.nils, LV.nils, LV.int .i64 0]) rfl rfl ?_
  intro g6
  refine GL.storeW I0.mono (n := 7) rfl rfl rfl rfl rfl rfl rfl (by conv => lhs; whnf) rfl rfl rfl ?_
  refine GL.assign I0.mono (by conv => lhs; whnf) ?_
  refine GL.doneF ?_
  refine goOn ?_
  refine Wp.seqI ?_
  refine Wp.seqI ?_
  refine Wp.regI I0.mono ?_
  refine GL.move I0.mono (by conv => lhs; whnf) ?_
  refine GL.bin I0.mono (v := .bool false) (by kernel_rfl) ?_
  refine GL.move I0.mono (by conv => lhs; whnf) ?_
  refine GL.guardT rfl ?_
  refine GL.move I0.mono (by conv => lhs; whnf) ?_
  refine GL.guardT rfl ?_
  refine GL.bin I0.mono (v := .bool false) (by kernel_rfl) ?_
  refine GL.pick I0.mono rfl (by conv => lhs; whnf) ?_
  refine GL.move I0.mono (by conv => lhs; whnf) ?_
  refine GL.guardT rfl ?_
  refine GL.loadW I0.mono (n := 7) rfl rfl rfl rfl (by simp) rfl rfl rfl ?_
  refine GL.guardT rfl ?_
  refine GL.buildSlice0 I0.mono (sz := 1) (z := [LV.int .i64 0]) (es := em ni [1, 2]) rfl rfl rfl rfl (by decide) (by decide) (by decide) (FrzP.cons (S := []) (T := []) (Frz.aggc (S := []) (T := []) (Frz.pure rfl) Frz.aggn) rfl (by decide) rfl (FrzP.cons (S := []) (T := []) (Frz.aggc (S := []) (T := []) (Frz.pure rfl) Frz.aggn) rfl (by decide) rfl (FrzP.nil))) rfl ?_
  intro g62
  refine GL.guardT rfl ?_
  refine GL.buildSliceM I0.mono (sz := 1) (z := [LV.nils]) (es := em nr [[1, 2], []]) rfl rfl rfl rfl (by decide) (by decide) (by decide) (FrzP.cons (Frz.aggc (by exact Frz.whole rfl rfl rfl rfl (by exact em_len _ _)) Frz.aggn) rfl (by decide) rfl (FrzP.cons (Frz.aggc (by exact Frz.nils) Frz.aggn) rfl (by decide) rfl (FrzP.nil))) rfl rfl ?_
  intro g63
  refine GL.guardT rfl ?_
  refine GL.buildSlice0 I0.mono (sz := 1) (z := [LV.int .i64 0]) (es := em ni [-1, -1, 3, -1]) rfl rfl rfl rfl (by decide) (by decide) (by decide) (FrzP.cons (S := []) (T := []) (Frz.aggc (S := []) (T := []) (Frz.pure rfl) Frz.aggn) rfl (by decide) rfl (FrzP.cons (S := []) (T := []) (Frz.aggc (S := []) (T := []) (Frz.pure rfl) Frz.aggn) rfl (by decide) rfl (FrzP.cons (S := []) (T := []) (Frz.aggc (S := []) (T := []) (Frz.pure rfl) Frz.aggn) rfl (by decide) rfl (FrzP.cons (S := []) (T := []) (Frz.aggc (S := []) (T := []) (Frz.pure rfl) Frz.aggn) rfl (by decide) rfl (FrzP.nil))))) rfl ?_
  intro g64
  refine GL.guardT rfl ?_
  refine GL.buildSlice0 I0.mono (sz := 1) (z := [LV.int .i64 0]) (es := em ni [-1, -1]) rfl rfl rfl rfl (by decide) (by decide) (by decide) (FrzP.cons (S := []) (T := []) (Frz.aggc (S := []) (T := []) (Frz.pure rfl) Frz.aggn) rfl (by decide) rfl (FrzP.cons (S := []) (T := []) (Frz.aggc (S := []) (T := []) (Frz.pure rfl) Frz.aggn) rfl (by decide) rfl (FrzP.nil))) rfl ?_
  intro g65
  refine GL.guardT rfl ?_
  refine GL.buildSlice0 I0.mono (sz := 1) (z := [LV.int .i64 0]) (es := em ni [1, 0]) rfl rfl rfl rfl (by decide) (by decide) (by decide) (FrzP.cons (S := []) (T := []) (Frz.aggc (S := []) (T := []) (Frz.pure rfl) Frz.aggn) rfl (by decide) rfl (FrzP.cons (S := []) (T := []) (Frz.aggc (S := []) (T := []) (Frz.pure rfl) Frz.aggn) rfl (by decide) rfl (FrzP.nil))) rfl ?_
  intro g66
  refine GL.guardT rfl ?_
  refine GL.buildSlice0 I0.mono (sz := 1) (z := [LV.int .i64 0]) (es := em ni [0, 1, 1, 0]) rfl rfl rfl rfl (by decide) (by decide) (by decide) (FrzP.cons (S := []) (T := []) (Frz.aggc (S := []) (T := []) (Frz.pure rfl) Frz.aggn) rfl (by decide) rfl (FrzP.cons (S := []) (T := []) (Frz.aggc (S := []) (T := []) (Frz.pure rfl) Frz.aggn) rfl (by decide) rfl (FrzP.cons (S := []) (T := []) (Frz.aggc (S := []) (T := []) (Frz.pure rfl) Frz.aggn) rfl (by decide) rfl (FrzP.cons (S := []) (T := []) (Frz.aggc (S := []) (T := []) (Frz.pure rfl) Frz.aggn) rfl (by decide) rfl (FrzP.nil))))) rfl ?_
  intro g67
  refine GL.guardT rfl ?_
  refine GL.buildSlice0 I0.mono (sz := 1) (z := [LV.int .i64 0]) (es := em ni [0, 0]) rfl rfl rfl rfl (by decide) (by decide) (by decide) (FrzP.cons (S := []) (T := []) (Frz.aggc (S := []) (T := []) (Frz.pure rfl) Frz.aggn) rfl (by decide) rfl (FrzP.cons (S := []) (T := []) (Frz.aggc (S := []) (T := []) (Frz.pure rfl) Frz.aggn) rfl (by decide) rfl (FrzP.nil))) rfl ?_
  intro g68
  refine GL.guardT rfl ?_
  refine GL.buildS I0.mono (z := [LV.nils, LV.nils, LV.nils, LV.nils, LV.nils, LV.nils, LV.int .i64 0]) (cs := [_, _, _, _, _, _, _]) (n := 7) rfl rfl rfl (EvS.cons (by conv => lhs; whnf) (EvS.cons (by conv => lhs; whnf) (EvS.cons (by conv => lhs; whnf) (EvS.cons (by conv => lhs; whnf) (EvS.cons (by conv => lhs; whnf) (EvS.cons (by conv => lhs; whnf) (EvS.cons (by conv => lhs; whnf) (EvS.nil)))))))) rfl rfl ?_
  refine GL.guardT rfl ?_
  refine GL.callFl I0.mono rfl (Frz.aggc (by exact Frz.pures rfl) (Frz.aggc (by exact (Frz.aggc (by exact Frz.whole rfl rfl rfl rfl (by exact em_len _ _)) (Frz.aggc (by exact Frz.whole rfl rfl rfl rfl (by exact em_len _ _)) (Frz.aggc (by exact Frz.whole rfl rfl rfl rfl (by exact em_len _ _)) (Frz.aggc (by exact Frz.whole rfl rfl rfl rfl (by exact em_len _ _)) (Frz.aggc (by exact Frz.whole rfl rfl rfl rfl (by exact em_len _ _)) (Frz.aggc (by exact Frz.whole rfl rfl rfl rfl (by exact em_len _ _)) (Frz.aggc (by exact Frz.pure rfl) Frz.aggn)))))))) Frz.aggn)) (ex_ok pA rfl (by decide)) (.sca rfl) rfl rfl ?_
  refine GL.guardT rfl ?_
  refine GL.un I0.mono rfl ?_
  refine GL.pick I0.mono rfl (by conv => lhs; whnf) ?_
  refine GL.move I0.mono (by conv => lhs; whnf) ?_
  refine GL.guardT rfl ?_
  refine GL.loadW I0.mono (n := 7) rfl rfl rfl rfl (by simp) rfl rfl rfl ?_
  refine GL.guardT rfl ?_
  refine GL.buildSlice0 I0.mono (sz := 1) (z := [LV.int .i64 0]) (es := em ni [2]) rfl rfl rfl rfl (by decide) (by decide) (by decide) (FrzP.cons (S := []) (T := []) (Frz.aggc (S := []) (T := []) (Frz.pure rfl) Frz.aggn) rfl (by decide) rfl (FrzP.nil)) rfl ?_
  intro g75
  refine GL.guardT rfl ?_
  refine GL.buildSlice0 I0.mono (sz := 1) (z := [LV.int .i64 0]) (es := em ni [1]) rfl rfl rfl rfl (by decide) (by decide) (by decide) (FrzP.cons (S := []) (T := []) (Frz.aggc (S := []) (T := []) (Frz.pure rfl) Frz.aggn) rfl (by decide) rfl (FrzP.nil)) rfl ?_
  intro g76
  refine GL.guardT rfl ?_
  refine GL.buildSliceM I0.mono (sz := 1) (z := [LV.nils]) (es := em nr [[2], [1]]) rfl rfl rfl rfl (by decide) (by decide) (by decide) (FrzP.cons (Frz.aggc (by exact Frz.whole rfl rfl rfl rfl (by exact em_len _ _)) Frz.aggn) rfl (by decide) rfl (FrzP.cons (Frz.aggc (by exact Frz.whole rfl rfl rfl rfl (by exact em_len _ _)) Frz.aggn) rfl (by decide) rfl (FrzP.nil))) rfl rfl ?_
  intro g77
  refine GL.guardT rfl ?_
  refine GL.buildSlice0 I0.mono (sz := 1) (z := [LV.int .i64 0]) (es := em ni [-1, -1, 3, -1]) rfl rfl rfl rfl (by decide) (by decide) (by decide) (FrzP.cons (S := []) (T := []) (Frz.aggc (S := []) (T := []) (Frz.pure rfl) Frz.aggn) rfl (by decide) rfl (FrzP.cons (S := []) (T := []) (Frz.aggc (S := []) (T := []) (Frz.pure rfl) Frz.aggn) rfl (by decide) rfl (FrzP.cons (S := []) (T := []) (Frz.aggc (S := []) (T := []) (Frz.pure rfl) Frz.aggn) rfl (by decide) rfl (FrzP.cons (S := []) (T := []) (Frz.aggc (S := []) (T := []) (Frz.pure rfl) Frz.aggn) rfl (by decide) rfl (FrzP.nil))))) rfl ?_
  intro g78
  refine GL.guardT rfl ?_
  refine GL.buildSlice0 I0.mono (sz := 1) (z := [LV.int .i64 0]) (es := em ni [-1, 0]) rfl rfl rfl rfl (by decide) (by decide) (by decide) (FrzP.cons (S := []) (T := []) (Frz.aggc (S := []) (T := []) (Frz.pure rfl) Frz.aggn) rfl (by decide) rfl (FrzP.cons (S := []) (T := []) (Frz.aggc (S := []) (T := []) (Frz.pure rfl) Frz.aggn) rfl (by decide) rfl (FrzP.nil))) rfl ?_
  intro g79
  refine GL.guardT rfl ?_
  refine GL.buildSlice0 I0.mono (sz := 1) (z := [LV.int .i64 0]) (es := em ni [2, 1]) rfl rfl rfl rfl (by decide) (by decide) (by decide) (FrzP.cons (S := []) (T := []) (Frz.aggc (S := []) (T := []) (Frz.pure rfl) Frz.aggn) rfl (by decide) rfl (FrzP.cons (S := []) (T := []) (Frz.aggc (S := []) (T := []) (Frz.pure rfl) Frz.aggn) rfl (by decide) rfl (FrzP.nil))) rfl ?_
  intro g80
  refine GL.guardT rfl ?_
  refine GL.buildSlice0 I0.mono (sz := 1) (z := [LV.int .i64 0]) (es := em ni [0, 1, 1, 0]) rfl rfl rfl rfl (by decide) (by decide) (by decide) (FrzP.cons (S := []) (T := []) (Frz.aggc (S := []) (T := []) (Frz.pure rfl) Frz.aggn) rfl (by decide) rfl (FrzP.cons (S := []) (T := []) (Frz.aggc (S := []) (T := []) (Frz.pure rfl) Frz.aggn) rfl (by decide) rfl (FrzP.cons (S := []) (T := []) (Frz.aggc (S := []) (T := []) (Frz.pure rfl) Frz.aggn) rfl (by decide) rfl (FrzP.cons (S := []) (T := []) (Frz.aggc (S := []) (T := []) (Frz.pure rfl) Frz.aggn) rfl (by decide) rfl (FrzP.nil))))) rfl ?_
  intro g81
  refine GL.guardT rfl ?_
  refine GL.buildSlice0 I0.mono (sz := 1) (z := [LV.int .i64 0]) (es := em ni [0, 1]) rfl rfl rfl rfl (by decide) (by decide) (by decide) (FrzP.cons (S := []) (T := []) (Frz.aggc (S := []) (T := []) (Frz.pure rfl) Frz.aggn) rfl (by decide) rfl (FrzP.cons (S := []) (T := []) (Frz.aggc (S := []) (T := []) (Frz.pure rfl) Frz.aggn) rfl (by decide) rfl (FrzP.nil))) rfl ?_
  intro g82
  refine GL.guardT rfl ?_
  refine GL.buildS I0.mono (z := [LV.nils, LV.nils, LV.nils, LV.nils, LV.nils, LV.nils, LV.int .i64 0]) (cs := [_, _, _, _, _, _, _]) (n := 7) rfl rfl rfl (EvS.cons (by conv => lhs; whnf) (EvS.cons (by conv => lhs; whnf) (EvS.cons (by conv => lhs; whnf) (EvS.cons (by conv => lhs; whnf) (EvS.cons (by conv => lhs; whnf) (EvS.cons (by conv => lhs; whnf) (EvS.cons (by conv => lhs; whnf) (EvS.nil)))))))) rfl rfl ?_
  refine GL.guardT rfl ?_
  refine GL.callFl I0.mono rfl (Frz.aggc (by exact Frz.pures rfl) (Frz.aggc (by exact (Frz.aggc (by exact Frz.whole rfl rfl rfl rfl (by exact em_len _ _)) (Frz.aggc (by exact Frz.whole rfl rfl rfl rfl (by exact em_len _ _)) (Frz.aggc (by exact Frz.whole rfl rfl rfl rfl (by exact em_len _ _)) (Frz.aggc (by exact Frz.whole rfl rfl rfl rfl (by exact em_len _ _)) (Frz.aggc (by exact Frz.whole rfl rfl rfl rfl (by exact em_len _ _)) (Frz.aggc (by exact Frz.whole rfl rfl rfl rfl (by exact em_len _ _)) (Frz.aggc (by exact Frz.pure rfl) Frz.aggn)))))))) Frz.aggn)) (ex_ok pQ rfl (by decide)) (.sca rfl) rfl rfl ?_
  refine GL.guardT rfl ?_
  refine GL.un I0.mono rfl ?_
  refine GL.pick I0.mono rfl (by conv => lhs; whnf) ?_
  refine GL.doneF ?_
  refine goOn ?_
  refine Wp.condF rfl ?_
  refine Wp.skipI ?_
  refine goOn ?_
  refine Wp.seqI ?_
  refine Wp.regI I0.mono ?_
  refine GL.loadW I0.mono (n := 7) rfl rfl rfl rfl (by simp) rfl rfl rfl ?_
  refine GL.callFl I0.mono rfl (Frz.aggc (by exact Frz.pures rfl) (Frz.aggc (Frz.pure rfl) Frz.aggn)) (where_c pQ rfl 1 (a := 1) (b := 0) (by decide)) (flat_ii _ _) rfl rfl ?_
  refine GL.move I0.mono (by conv => lhs; whnf) ?_
  refine GL.extract I0.mono rfl rfl ?_
  refine GL.extract I0.mono rfl rfl ?_
  refine GL.assign I0.mono (by conv => lhs; whnf) ?_
  refine GL.assign I0.mono (by conv => lhs; whnf) ?_
  refine GL.doneF ?_
  refine goOn ?_
  refine Wp.seqI ?_
  have hw := within_in (a := n) (n := 1000) (by decide)
  refine Wp.regI I0.mono ?_
  refine GL.move I0.mono (by conv => lhs; whnf) ?_
  refine GL.call0 I0.mono rfl (Frz.aggc (by exact Frz.pure rfl) (Frz.aggc (by exact Frz.pure rfl) (Frz.aggn))) (within_ok _ _ (by decide)) rfl rfl (fun _ => rfl) ?_
  refine GL.addR I0.mono rfl rfl (by omega) ?_
  refine GL.assign I0.mono (by conv => lhs; whnf) ?_
  refine GL.doneF ?_
  refine goOn ?_
  refine Wp.seqI ?_
  refine Wp.seqI ?_
  refine Wp.regI I0.mono ?_
  refine GL.move I0.mono (by conv => lhs; whnf) ?_
  refine GL.addR I0.mono rfl rfl (by omega) ?_
  refine GL.buildS I0.mono (z := [LV.int .i64 0, LV.nils, LV.nils]) (cs := [_, _, _]) (n := 3) rfl rfl rfl (EvS.cons (by conv => lhs; whnf) (EvS.nil)) rfl rfl ?_
  refine GL.buildSliceM I0.mono (sz := 3) (z := [LV.int .i64 0, LV.nils, LV.nils]) (es := em kt ((casesP (1 + within n 1000)).getD 0 default).d.turns) rfl rfl rfl rfl (by decide) (by decide) (by decide) (FrzP.cons (Frz.aggc (by exact Frz.pure rfl) (Frz.aggc (by exact Frz.nils) (Frz.aggc (by exact Frz.nils) Frz.aggn))) rfl (by decide) rfl (FrzP.nil)) rfl rfl ?_
  intro g98
  refine GL.buildS I0.mono (z := [LV.nils, LV.nils, LV.nils]) (cs := [_, _, _]) (n := 3) rfl rfl rfl (EvS.cons (by conv => lhs; whnf) (EvS.nil)) rfl rfl ?_
  refine GL.buildG I0.mono (z := [.nils, .nils, .nils, .int .i64 0]) (cs := [_, _, _, _]) rfl rfl (EvS.cons (by conv => lhs; whnf) (EvS.cons (by conv => lhs; whnf) EvS.nil)) rfl rfl ?_
  refine GL.move I0.mono (by conv => lhs; whnf) ?_
  refine GL.negR I0.mono rfl (by omega) ?_
  refine GL.buildS I0.mono (z := [LV.int .i64 0, LV.nils, LV.nils]) (cs := [_, _, _]) (n := 3) rfl rfl rfl (EvS.cons (by conv => lhs; whnf) (EvS.nil)) rfl rfl ?_
  refine GL.buildSliceM I0.mono (sz := 3) (z := [LV.int .i64 0, LV.nils, LV.nils]) (es := em kt ((casesP (1 + within n 1000)).getD 1 default).d.turns) rfl rfl rfl rfl (by decide) (by decide) (by decide) (FrzP.cons (Frz.aggc (by exact Frz.pure rfl) (Frz.aggc (by exact Frz.nils) (Frz.aggc (by exact Frz.nils) Frz.aggn))) rfl (by decide) rfl (FrzP.nil)) rfl rfl ?_
  intro g104
  refine GL.buildS I0.mono (z := [LV.nils, LV.nils, LV.nils]) (cs := [_, _, _]) (n := 3) rfl rfl rfl (EvS.cons (by conv => lhs; whnf) (EvS.nil)) rfl rfl ?_
  refine GL.buildG I0.mono (z := [.nils, .nils, .nils, .int .i64 0]) (cs := [_, _, _, _]) rfl rfl (EvS.cons (by conv => lhs; whnf) (EvS.cons (by conv => lhs; whnf) EvS.nil)) rfl rfl ?_
  refine GL.buildSlice0 I0.mono (sz := 1) (z := [LV.int .i64 0]) (es := em ni [2]) rfl rfl rfl rfl (by decide) (by decide) (by decide) (FrzP.cons (S := []) (T := []) (Frz.aggc (S := []) (T := []) (Frz.pure rfl) Frz.aggn) rfl (by decide) rfl (FrzP.nil)) rfl ?_
  intro g107
  refine GL.move I0.mono (by conv => lhs; whnf) ?_
  refine GL.addR I0.mono rfl rfl (by omega) ?_
  refine GL.buildSlice0 I0.mono (sz := 1) (z := [LV.int .i64 0]) (es := em ni [3 + (1 + within n 1000)]) rfl rfl rfl rfl (by decide) (by decide) (by decide) (FrzP.cons (S := []) (T := []) (Frz.aggc (S := []) (T := []) (Frz.pure rfl) Frz.aggn) rfl (by decide) rfl (FrzP.nil)) rfl ?_
  intro g110
  refine GL.buildS I0.mono (z := [LV.int .i64 0, LV.nils, LV.nils]) (cs := [_, _, _]) (n := 3) rfl rfl rfl (EvS.cons (by conv => lhs; whnf) (EvS.cons (by conv => lhs; whnf) (EvS.cons (by conv => lhs; whnf) (EvS.nil)))) rfl rfl ?_
  refine GL.buildSliceM I0.mono (sz := 3) (z := [LV.int .i64 0, LV.nils, LV.nils]) (es := em kt ((casesP (1 + within n 1000)).getD 2 default).d.turns) rfl rfl rfl rfl (by decide) (by decide) (by decide) (FrzP.cons (Frz.aggc (by exact Frz.pure rfl) (Frz.aggc (by exact Frz.whole rfl rfl rfl rfl (by exact em_len _ _)) (Frz.aggc (by exact Frz.whole rfl rfl rfl rfl (by exact em_len _ _)) Frz.aggn))) rfl (by decide) rfl (FrzP.nil)) rfl rfl ?_
  intro g112
  refine GL.buildS I0.mono (z := [LV.nils, LV.nils, LV.nils]) (cs := [_, _, _]) (n := 3) rfl rfl rfl (EvS.cons (by conv => lhs; whnf) (EvS.nil)) rfl rfl ?_
  refine GL.buildG I0.mono (z := [.nils, .nils, .nils, .int .i64 0]) (cs := [_, _, _, _]) rfl rfl (EvS.cons (by conv => lhs; whnf) (EvS.cons (by conv => lhs; whnf) EvS.nil)) rfl rfl ?_
  refine GL.buildSlice0 I0.mono (sz := 1) (z := [LV.int .i64 0]) (es := em ni [2]) rfl rfl rfl rfl (by decide) (by decide) (by decide) (FrzP.cons (S := []) (T := []) (Frz.aggc (S := []) (T := []) (Frz.pure rfl) Frz.aggn) rfl (by decide) rfl (FrzP.nil)) rfl ?_
  intro g115
  refine GL.buildSlice0 I0.mono (sz := 1) (z := [LV.int .i64 0]) (es := em ni [0]) rfl rfl rfl rfl (by decide) (by decide) (by decide) (FrzP.cons (S := []) (T := []) (Frz.aggc (S := []) (T := []) (Frz.pure rfl) Frz.aggn) rfl (by decide) rfl (FrzP.nil)) rfl ?_
  intro g116
  refine GL.buildS I0.mono (z := [LV.int .i64 0, LV.nils, LV.nils]) (cs := [_, _, _]) (n := 3) rfl rfl rfl (EvS.cons (by conv => lhs; whnf) (EvS.cons (by conv => lhs; whnf) (EvS.cons (by conv => lhs; whnf) (EvS.nil)))) rfl rfl ?_
  refine GL.buildSliceM I0.mono (sz := 3) (z := [LV.int .i64 0, LV.nils, LV.nils]) (es := em kt ((casesP (1 + within n 1000)).getD 3 default).d.turns) rfl rfl rfl rfl (by decide) (by decide) (by decide) (FrzP.cons (Frz.aggc (by exact Frz.pure rfl) (Frz.aggc (by exact Frz.whole rfl rfl rfl rfl (by exact em_len _ _)) (Frz.aggc (by exact Frz.whole rfl rfl rfl rfl (by exact em_len _ _)) Frz.aggn))) rfl (by decide) rfl (FrzP.nil)) rfl rfl ?_
  intro g118
  refine GL.buildS I0.mono (z := [LV.nils, LV.nils, LV.nils]) (cs := [_, _, _]) (n := 3) rfl rfl rfl (EvS.cons (by conv => lhs; whnf) (EvS.nil)) rfl rfl ?_
  refine GL.buildG I0.mono (z := [.nils, .nils, .nils, .int .i64 0]) (cs := [_, _, _, _]) rfl rfl (EvS.cons (by conv => lhs; whnf) (EvS.cons (by conv => lhs; whnf) EvS.nil)) rfl rfl ?_
  refine GL.buildSlice0 I0.mono (sz := 1) (z := [LV.int .i64 0]) (es := em ni [2]) rfl rfl rfl rfl (by decide) (by decide) (by decide) (FrzP.cons (S := []) (T := []) (Frz.aggc (S := []) (T := []) (Frz.pure rfl) Frz.aggn) rfl (by decide) rfl (FrzP.nil)) rfl ?_
  intro g121
  refine GL.buildSlice0 I0.mono (sz := 1) (z := [LV.int .i64 0]) (es := em ni [2, 1]) rfl rfl rfl rfl (by decide) (by decide) (by decide) (FrzP.cons (S := []) (T := []) (Frz.aggc (S := []) (T := []) (Frz.pure rfl) Frz.aggn) rfl (by decide) rfl (FrzP.cons (S := []) (T := []) (Frz.aggc (S := []) (T := []) (Frz.pure rfl) Frz.aggn) rfl (by decide) rfl (FrzP.nil))) rfl ?_
  intro g122
  refine GL.buildS I0.mono (z := [LV.int .i64 0, LV.nils, LV.nils]) (cs := [_, _, _]) (n := 3) rfl rfl rfl (EvS.cons (by conv => lhs; whnf) (EvS.cons (by conv => lhs; whnf) (EvS.cons (by conv => lhs; whnf) (EvS.nil)))) rfl rfl ?_
  refine GL.buildSliceM I0.mono (sz := 3) (z := [LV.int .i64 0, LV.nils, LV.nils]) (es := em kt ((casesP (1 + within n 1000)).getD 4 default).d.turns) rfl rfl rfl rfl (by decide) (by decide) (by decide) (FrzP.cons (Frz.aggc (by exact Frz.pure rfl) (Frz.aggc (by exact Frz.whole rfl rfl rfl rfl (by exact em_len _ _)) (Frz.aggc (by exact Frz.whole rfl rfl rfl rfl (by exact em_len _ _)) Frz.aggn))) rfl (by decide) rfl (FrzP.nil)) rfl rfl ?_
  intro g124
  refine GL.buildS I0.mono (z := [LV.nils, LV.nils, LV.nils]) (cs := [_, _, _]) (n := 3) rfl rfl rfl (EvS.cons (by conv => lhs; whnf) (EvS.nil)) rfl rfl ?_
  refine GL.buildG I0.mono (z := [.nils, .nils, .nils, .int .i64 0]) (cs := [_, _, _, _]) rfl rfl (EvS.cons (by conv => lhs; whnf) (EvS.cons (by conv => lhs; whnf) EvS.nil)) rfl rfl ?_
  refine GL.buildSlice0 I0.mono (sz := 1) (z := [LV.int .i64 0]) (es := em ni [2]) rfl rfl rfl rfl (by decide) (by decide) (by decide) (FrzP.cons (S := []) (T := []) (Frz.aggc (S := []) (T := []) (Frz.pure rfl) Frz.aggn) rfl (by decide) rfl (FrzP.nil)) rfl ?_
  intro g127
  refine GL.buildSlice0 I0.mono (sz := 1) (z := [LV.int .i64 0]) (es := em ni [3, 3]) rfl rfl rfl rfl (by decide) (by decide) (by decide) (FrzP.cons (S := []) (T := []) (Frz.aggc (S := []) (T := []) (Frz.pure rfl) Frz.aggn) rfl (by decide) rfl (FrzP.cons (S := []) (T := []) (Frz.aggc (S := []) (T := []) (Frz.pure rfl) Frz.aggn) rfl (by decide) rfl (FrzP.nil))) rfl ?_
  intro g128
  refine GL.buildS I0.mono (z := [LV.int .i64 0, LV.nils, LV.nils]) (cs := [_, _, _]) (n := 3) rfl rfl rfl (EvS.cons (by conv => lhs; whnf) (EvS.cons (by conv => lhs; whnf) (EvS.cons (by conv => lhs; whnf) (EvS.nil)))) rfl rfl ?_
  refine GL.buildSliceM I0.mono (sz := 3) (z := [LV.int .i64 0, LV.nils, LV.nils]) (es := em kt ((casesP (1 + within n 1000)).getD 5 default).d.turns) rfl rfl rfl rfl (by decide) (by decide) (by decide) (FrzP.cons (Frz.aggc (by exact Frz.pure rfl) (Frz.aggc (by exact Frz.whole rfl rfl rfl rfl (by exact em_len _ _)) (Frz.aggc (by exact Frz.whole rfl rfl rfl rfl (by exact em_len _ _)) Frz.aggn))) rfl (by decide) rfl (FrzP.nil)) rfl rfl ?_
  intro g130
  refine GL.buildS I0.mono (z := [LV.nils, LV.nils, LV.nils]) (cs := [_, _, _]) (n := 3) rfl rfl rfl (EvS.cons (by conv => lhs; whnf) (EvS.nil)) rfl rfl ?_
  refine GL.buildG I0.mono (z := [.nils, .nils, .nils, .int .i64 0]) (cs := [_, _, _, _]) rfl rfl (EvS.cons (by conv => lhs; whnf) (EvS.cons (by conv => lhs; whnf) EvS.nil)) rfl rfl ?_
  refine GL.buildSlice0 I0.mono (sz := 1) (z := [LV.int .i64 0]) (es := em ni [1]) rfl rfl rfl rfl (by decide) (by decide) (by decide) (FrzP.cons (S := []) (T := []) (Frz.aggc (S := []) (T := []) (Frz.pure rfl) Frz.aggn) rfl (by decide) rfl (FrzP.nil)) rfl ?_
  intro g133
  refine GL.buildSlice0 I0.mono (sz := 1) (z := [LV.int .i64 0]) (es := em ni [2]) rfl rfl rfl rfl (by decide) (by decide) (by decide) (FrzP.cons (S := []) (T := []) (Frz.aggc (S := []) (T := []) (Frz.pure rfl) Frz.aggn) rfl (by decide) rfl (FrzP.nil)) rfl ?_
  intro g134
  refine GL.buildS I0.mono (z := [LV.int .i64 0, LV.nils, LV.nils]) (cs := [_, _, _]) (n := 3) rfl rfl rfl (EvS.cons (by conv => lhs; whnf) (EvS.cons (by conv => lhs; whnf) (EvS.cons (by conv => lhs; whnf) (EvS.nil)))) rfl rfl ?_
  refine GL.buildSliceM I0.mono (sz := 3) (z := [LV.int .i64 0, LV.nils, LV.nils]) (es := em kt ((casesP (1 + within n 1000)).getD 6 default).d.turns) rfl rfl rfl rfl (by decide) (by decide) (by decide) (FrzP.cons (Frz.aggc (by exact Frz.pure rfl) (Frz.aggc (by exact Frz.whole rfl rfl rfl rfl (by exact em_len _ _)) (Frz.aggc (by exact Frz.whole rfl rfl rfl rfl (by exact em_len _ _)) Frz.aggn))) rfl (by decide) rfl (FrzP.nil)) rfl rfl ?_
  intro g136
  refine GL.buildS I0.mono (z := [LV.nils, LV.nils, LV.nils]) (cs := [_, _, _]) (n := 3) rfl rfl rfl (EvS.cons (by conv => lhs; whnf) (EvS.nil)) rfl rfl ?_
  refine GL.buildG I0.mono (z := [.nils, .nils, .nils, .int .i64 0]) (cs := [_, _, _, _]) rfl rfl (EvS.cons (by conv => lhs; whnf) (EvS.cons (by conv => lhs; whnf) EvS.nil)) rfl rfl ?_
  refine GL.buildS I0.mono (z := [LV.int .i64 0, LV.nils, LV.nils]) (cs := [_, _, _]) (n := 3) rfl rfl rfl (EvS.cons (by conv => lhs; whnf) (EvS.cons (by conv => lhs; whnf) (EvS.nil))) rfl rfl ?_
  refine GL.buildSliceM I0.mono (sz := 3) (z := [LV.int .i64 0, LV.nils, LV.nils]) (es := em kt ((casesP (1 + within n 1000)).getD 7 default).d.turns) rfl rfl rfl rfl (by decide) (by decide) (by decide) (FrzP.cons (Frz.aggc (by exact Frz.pure rfl) (Frz.aggc (by exact Frz.nils) (Frz.aggc (by exact Frz.nils) Frz.aggn))) rfl (by decide) rfl (FrzP.nil)) rfl rfl ?_
  intro g140
  refine GL.buildS I0.mono (z := [LV.nils, LV.nils, LV.nils]) (cs := [_, _, _]) (n := 3) rfl rfl rfl (EvS.cons (by conv => lhs; whnf) (EvS.nil)) rfl rfl ?_
  refine GL.buildG I0.mono (z := [.nils, .nils, .nils, .int .i64 0]) (cs := [_, _, _, _]) rfl rfl (EvS.cons (by conv => lhs; whnf) (EvS.cons (by conv => lhs; whnf) EvS.nil)) rfl rfl ?_
  refine GL.buildS I0.mono (z := [LV.int .i64 0, LV.int .i64 0, LV.int .i64 0]) (cs := [_, _, _]) (n := 3) rfl rfl rfl (EvS.cons (by conv => lhs; whnf) (EvS.cons (by conv => lhs; whnf) (EvS.cons (by conv => lhs; whnf) (EvS.nil)))) rfl rfl ?_
  refine GL.buildSlice0 I0.mono (sz := 3) (z := [LV.int .i64 0, LV.int .i64 0, LV.int .i64 0]) (es := em kh ((casesP (1 + within n 1000)).getD 8 default).d.locks) rfl rfl rfl rfl (by decide) (by decide) (by decide) (FrzP.cons (S := []) (T := []) (Frz.pures rfl) rfl (by decide) rfl (FrzP.nil)) rfl ?_
  intro g144
  refine GL.buildS I0.mono (z := [LV.nils, LV.nils, LV.nils]) (cs := [_, _, _]) (n := 3) rfl rfl rfl (EvS.cons (by conv => lhs; whnf) (EvS.nil)) rfl rfl ?_
  refine GL.buildG I0.mono (z := [.nils, .nils, .nils, .int .i64 0]) (cs := [_, _, _, _]) rfl rfl (EvS.cons (by conv => lhs; whnf) (EvS.cons (by conv => lhs; whnf) EvS.nil)) rfl rfl ?_
  refine GL.move I0.mono (by conv => lhs; whnf) ?_
  refine GL.addR I0.mono rfl rfl (by omega) ?_
  refine GL.buildS I0.mono (z := [LV.int .i64 0, LV.int .i64 0, LV.int .i64 0]) (cs := [_, _, _]) (n := 3) rfl rfl rfl (EvS.cons (by conv => lhs; whnf) (EvS.cons (by conv => lhs; whnf) (EvS.cons (by conv => lhs; whnf) (EvS.nil)))) rfl rfl ?_
  refine GL.buildSlice0 I0.mono (sz := 3) (z := [LV.int .i64 0, LV.int .i64 0, LV.int .i64 0]) (es := em kh ((casesP (1 + within n 1000)).getD 9 default).d.locks) rfl rfl rfl rfl (by decide) (by decide) (by decide) (FrzP.cons (S := []) (T := []) (Frz.pures rfl) rfl (by decide) rfl (FrzP.nil)) rfl ?_
  intro g150
  refine GL.buildS I0.mono (z := [LV.nils, LV.nils, LV.nils]) (cs := [_, _, _]) (n := 3) rfl rfl rfl (EvS.cons (by conv => lhs; whnf) (EvS.nil)) rfl rfl ?_
  refine GL.buildG I0.mono (z := [.nils, .nils, .nils, .int .i64 0]) (cs := [_, _, _, _]) rfl rfl (EvS.cons (by conv => lhs; whnf) (EvS.cons (by conv => lhs; whnf) EvS.nil)) rfl rfl ?_
  refine GL.buildS I0.mono (z := [LV.int .i64 0, LV.int .i64 0, LV.int .i64 0]) (cs := [_, _, _]) (n := 3) rfl rfl rfl (EvS.cons (by conv => lhs; whnf) (EvS.cons (by conv => lhs; whnf) (EvS.cons (by conv => lhs; whnf) (EvS.nil)))) rfl rfl ?_
  refine GL.buildSlice0 I0.mono (sz := 3) (z := [LV.int .i64 0, LV.int .i64 0, LV.int .i64 0]) (es := em kh ((casesP (1 + within n 1000)).getD 10 default).d.locks) rfl rfl rfl rfl (by decide) (by decide) (by decide) (FrzP.cons (S := []) (T := []) (Frz.pures rfl) rfl (by decide) rfl (FrzP.nil)) rfl ?_
  intro g154
  refine GL.buildS I0.mono (z := [LV.nils, LV.nils, LV.nils]) (cs := [_, _, _]) (n := 3) rfl rfl rfl (EvS.cons (by conv => lhs; whnf) (EvS.nil)) rfl rfl ?_
  refine GL.buildG I0.mono (z := [.nils, .nils, .nils, .int .i64 0]) (cs := [_, _, _, _]) rfl rfl (EvS.cons (by conv => lhs; whnf) (EvS.cons (by conv => lhs; whnf) EvS.nil)) rfl rfl ?_
  refine GL.move I0.mono (by conv => lhs; whnf) ?_
  refine GL.addR I0.mono rfl rfl (by omega) ?_
  refine GL.buildS I0.mono (z := [LV.int .i64 0, LV.int .i64 0, LV.int .i64 0]) (cs := [_, _, _]) (n := 3) rfl rfl rfl (EvS.cons (by conv => lhs; whnf) (EvS.cons (by conv => lhs; whnf) (EvS.cons (by conv => lhs; whnf) (EvS.nil)))) rfl rfl ?_
  refine GL.buildSlice0 I0.mono (sz := 3) (z := [LV.int .i64 0, LV.int .i64 0, LV.int .i64 0]) (es := em kh ((casesP (1 + within n 1000)).getD 11 default).d.ices) rfl rfl rfl rfl (by decide) (by decide) (by decide) (FrzP.cons (S := []) (T := []) (Frz.pures rfl) rfl (by decide) rfl (FrzP.nil)) rfl ?_
  intro g160
  refine GL.buildS I0.mono (z := [LV.nils, LV.nils, LV.nils]) (cs := [_, _, _]) (n := 3) rfl rfl rfl (EvS.cons (by conv => lhs; whnf) (EvS.nil)) rfl rfl ?_
  refine GL.buildG I0.mono (z := [.nils, .nils, .nils, .int .i64 0]) (cs := [_, _, _, _]) rfl rfl (EvS.cons (by conv => lhs; whnf) (EvS.cons (by conv => lhs; whnf) EvS.nil)) rfl rfl ?_
  refine GL.buildS I0.mono (z := [LV.int .i64 0, LV.int .i64 0, LV.int .i64 0]) (cs := [_, _, _]) (n := 3) rfl rfl rfl (EvS.cons (by conv => lhs; whnf) (EvS.cons (by conv => lhs; whnf) (EvS.cons (by conv => lhs; whnf) (EvS.nil)))) rfl rfl ?_
  refine GL.buildSlice0 I0.mono (sz := 3) (z := [LV.int .i64 0, LV.int .i64 0, LV.int .i64 0]) (es := em kh ((casesP (1 + within n 1000)).getD 12 default).d.ices) rfl rfl rfl rfl (by decide) (by decide) (by decide) (FrzP.cons (S := []) (T := []) (Frz.pures rfl) rfl (by decide) rfl (FrzP.nil)) rfl ?_
  intro g164
  refine GL.buildS I0.mono (z := [LV.nils, LV.nils, LV.nils]) (cs := [_, _, _]) (n := 3) rfl rfl rfl (EvS.cons (by conv => lhs; whnf) (EvS.nil)) rfl rfl ?_
  refine GL.buildG I0.mono (z := [.nils, .nils, .nils, .int .i64 0]) (cs := [_, _, _, _]) rfl rfl (EvS.cons (by conv => lhs; whnf) (EvS.cons (by conv => lhs; whnf) EvS.nil)) rfl rfl ?_
  refine GL.buildSliceM I0.mono (sz := 4) (z := [LV.nils, LV.nils, LV.nils, LV.int .i64 0]) (es := em kpc (casesP (1 + within n 1000))) rfl rfl rfl rfl (by decide) (by decide) (by decide) (FrzP.cons (Frz.aggc (by exact Frz.whole rfl rfl rfl rfl (by exact em_len _ _)) (Frz.aggc (by exact Frz.nils) (Frz.aggc (by exact Frz.nils) (Frz.aggc (by exact Frz.pure rfl) Frz.aggn)))) rfl (by decide) rfl (FrzP.cons (Frz.aggc (by exact Frz.whole rfl rfl rfl rfl (by exact em_len _ _)) (Frz.aggc (by exact Frz.nils) (Frz.aggc (by exact Frz.nils) (Frz.aggc (by exact Frz.pure rfl) Frz.aggn)))) rfl (by decide) rfl (FrzP.cons (Frz.aggc (by exact Frz.whole rfl rfl rfl rfl (by exact em_len _ _)) (Frz.aggc (by exact Frz.nils) (Frz.aggc (by exact Frz.nils) (Frz.aggc (by exact Frz.pure rfl) Frz.aggn)))) rfl (by decide) rfl (FrzP.cons (Frz.aggc (by exact Frz.whole rfl rfl rfl rfl (by exact em_len _ _)) (Frz.aggc (by exact Frz.nils) (Frz.aggc (by exact Frz.nils) (Frz.aggc (by exact Frz.pure rfl) Frz.aggn)))) rfl (by decide) rfl (FrzP.cons (Frz.aggc (by exact Frz.whole rfl rfl rfl rfl (by exact em_len _ _)) (Frz.aggc (by exact Frz.nils) (Frz.aggc (by exact Frz.nils) (Frz.aggc (by exact Frz.pure rfl) Frz.aggn)))) rfl (by decide) rfl (FrzP.cons (Frz.aggc (by exact Frz.whole rfl rfl rfl rfl (by exact em_len _ _)) (Frz.aggc (by exact Frz.nils) (Frz.aggc (by exact Frz.nils) (Frz.aggc (by exact Frz.pure rfl) Frz.aggn)))) rfl (by decide) rfl (FrzP.cons (Frz.aggc (by exact Frz.whole rfl rfl rfl rfl (by exact em_len _ _)) (Frz.aggc (by exact Frz.nils) (Frz.aggc (by exact Frz.nils) (Frz.aggc (by exact Frz.pure rfl) Frz.aggn)))) rfl (by decide) rfl (FrzP.cons (Frz.aggc (by exact Frz.whole rfl rfl rfl rfl (by exact em_len _ _)) (Frz.aggc (by exact Frz.nils) (Frz.aggc (by exact Frz.nils) (Frz.aggc (by exact Frz.pure rfl) Frz.aggn)))) rfl (by decide) rfl (FrzP.cons (Frz.aggc (by exact Frz.nils) (Frz.aggc (by exact Frz.whole rfl rfl rfl rfl (by exact em_len _ _)) (Frz.aggc (by exact Frz.nils) (Frz.aggc (by exact Frz.pure rfl) Frz.aggn)))) rfl (by decide) rfl (FrzP.cons (Frz.aggc (by exact Frz.nils) (Frz.aggc (by exact Frz.whole rfl rfl rfl rfl (by exact em_len _ _)) (Frz.aggc (by exact Frz.nils) (Frz.aggc (by exact Frz.pure rfl) Frz.aggn)))) rfl (by decide) rfl (FrzP.cons (Frz.aggc (by exact Frz.nils) (Frz.aggc (by exact Frz.whole rfl rfl rfl rfl (by exact em_len _ _)) (Frz.aggc (by exact Frz.nils) (Frz.aggc (by exact Frz.pure rfl) Frz.aggn)))) rfl (by decide) rfl (FrzP.cons (Frz.aggc (by exact Frz.nils) (Frz.aggc (by exact Frz.nils) (Frz.aggc (by exact Frz.whole rfl rfl rfl rfl (by exact em_len _ _)) (Frz.aggc (by exact Frz.pure rfl) Frz.aggn)))) rfl (by decide) rfl (FrzP.cons (Frz.aggc (by exact Frz.nils) (Frz.aggc (by exact Frz.nils) (Frz.aggc (by exact Frz.whole rfl rfl rfl rfl (by exact em_len _ _)) (Frz.aggc (by exact Frz.pure rfl) Frz.aggn)))) rfl (by decide) rfl (FrzP.nil)))))))))))))) rfl rfl ?_
  intro g167
  refine GL.lenO I0.mono rfl rfl rfl rfl ?_
  refine GL.move I0.mono (by conv => lhs; whnf) ?_
  refine GL.doneF ?_
  refine goOn ?_
  refine Wp.blockI ?_
  refine Wp.loopI I0.mono (α := Nat) (fun i st => (i ≤ 13) ∧ ∃ m0, st = ⟨(updS (updS (updS (updS (updS (updS (updS (updS (updS (fun _ => LV.undef) 0 (.int .i64 (1 + within n 1000))) 3 (.ref 192 g3 0 0)) 4 (.ref 256 g4 0 0)) 6 (.ref 384 g6 0 0)) 8 (.int .i64 1)) 9 (.int .i64 0)) 167 (.own 10688 g167 0 13 none)) 168 (.int .i64 13)) 169 (.int .i64 (i : Int))), effM m0 [(192, ⟨g3, false, .var, 4, [[.own 1024 g16 0 2 none, .own 1280 g20 0 3 none, .nils, .own 1600 g25 0 4 none]]⟩), (1024, ⟨g16, true, .slc, 3, em nc iP.cars⟩), (1280, ⟨g20, true, .slc, 4, em ns iP.stops⟩), (1600, ⟨g25, true, .slc, 1, em nr iP.travel⟩), (256, ⟨g4, false, .var, 7, [kp pA]⟩), (384, ⟨g6, false, .var, 7, [kp pQ]⟩), (10688, ⟨g167, false, .slc, 4, em kpc (casesP (1 + within n 1000))⟩)]⟩) (fun i => 13 - i) 0 ⟨_, (LessS.weak (LessS.upd (LessS.upd (LessS.upd (LessS.upd (LessS.upd (LessS.upd (LessS.upd (LessS.upd (LessS.upd (LessS.nil _) rfl) rfl) rfl) rfl) rfl) rfl) rfl) rfl) rfl) _), (Nat.zero_le _), _, (congrArg (St.mk _) (effM_eq (Has.cons rfl (Has.cons rfl (Has.cons rfl (Has.cons rfl (Has.cons rfl (Has.cons rfl (Has.cons rfl Has.nil)))))))).symm)⟩ ?_
  rintro i _ ⟨hi, m0, rfl⟩
  refine Wp.seqI ?_
  refine Wp.regI I0.mono ?_
  refine GL.bin I0.mono rfl ?_
  refine GL.doneF ?_
  refine goOn ?_
  refine Wp.seqI ?_
  refine Wp.condI rfl (fun h170 => ?_) (fun h170 => ?_)
  ·replace h170 := of_decide_eq_true h170
   refine Wp.skipI ?_
   refine goOn ?_
   refine Wp.seqI ?_
   refine Wp.blockI ?_
   refine Wp.seqI ?_
   refine Wp.regI I0.mono ?_
   refine GL.indexAddr I0.mono (sz := 4) (j := i) rfl rfl rfl rfl rfl rfl rfl rfl (by omega) (by omega) (by omega) ?_
   refine GL.loadW I0.mono (n := 4) rfl rfl rfl rfl (by simp) (em_get (l := casesP (1 + within n 1000)) (by show i < 13; omega)) rfl rfl ?_
   refine GL.alloc I0.mono (cs := [LV.nils, LV.nils, LV.nils, LV.int .i64 0]) rfl rfl ?_
   intro g11
   refine GL.storeW I0.mono (n := 4) rfl rfl rfl rfl rfl rfl rfl (by conv => lhs; whnf) rfl rfl rfl ?_
   refine GL.doneF ?_
   refine goOn ?_
   refine Wp.seqI ?_
   refine Wp.regI I0.mono ?_
   refine GL.loadW I0.mono (n := 7) rfl rfl rfl rfl (by simp) rfl rfl rfl ?_
   refine GL.fieldAddr I0.mono (o := 0) rfl rfl rfl rfl (by conv => lhs; whnf) ?_
   refine GL.loadA I0.mono (n := 3) rfl rfl rfl rfl (by simp) rfl rfl (Nat.le_of_ble_eq_true rfl) (by (conv => lhs; simp only [List.take_succ_cons, List.take_zero, List.drop_succ_cons, List.drop_zero, List.nil_append, List.cons_append, List.drop_nil, List.append_nil, List.take_nil, List.set_cons_zero, List.set_cons_succ, Nat.zero_add, kp, kd, kt, kh, kpc, ic])) ?_
   refine GL.call0 I0.mono rfl (Frz.aggc (by exact Frz.pures rfl) (Frz.aggc (by exact Frz.pures rfl) Frz.aggn)) (caseP_ok (1 + within n 1000) (by omega) i (by omega)) rfl rfl (fun _ => rfl) ?_
   refine GL.move I0.mono (by conv => lhs; whnf) ?_
   refine GL.extract I0.mono rfl rfl ?_
   refine GL.extract I0.mono rfl rfl ?_
   refine GL.alloc I0.mono (cs := [LV.nils, LV.nils, LV.nils, LV.nils, LV.nils, LV.nils, LV.int .i64 0]) rfl rfl ?_
   intro g12
   refine GL.storeW I0.mono (n := 7) rfl rfl rfl rfl rfl rfl rfl (by conv => lhs; whnf) rfl rfl rfl ?_
   refine GL.assign I0.mono (by conv => lhs; whnf) ?_
   refine GL.doneF ?_
   refine goOn ?_
   refine Wp.seqI ?_
   refine Wp.regI I0.mono ?_
   refine GL.move I0.mono (by conv => lhs; whnf) ?_
   refine GL.fieldAddr I0.mono (o := 3) rfl rfl rfl rfl (by conv => lhs; whnf) ?_
   refine GL.load I0.mono rfl rfl rfl rfl (by simp) rfl rfl ?_
   refine GL.bin I0.mono (v := .bool false) (show some (LV.bool (_ != _)) = some (LV.bool false) by rw [bne_self_eq_false]) ?_
   refine GL.move I0.mono (by conv => lhs; whnf) ?_
   refine GL.guardT rfl ?_
   refine GL.fieldAddr I0.mono (o := 0) rfl rfl rfl rfl (by conv => lhs; whnf) ?_
   refine GL.guardT rfl ?_
   refine GL.load I0.mono rfl rfl rfl rfl (by simp) rfl rfl ?_
   refine GL.guardT rfl ?_
   refine GL.lenF I0.mono rfl rfl rfl ?_
   refine GL.guardT rfl ?_
   refine GL.bin I0.mono (v := .bool false) (by kernel_rfl) ?_
   refine GL.pick I0.mono rfl (by conv => lhs; whnf) ?_
   refine GL.doneF ?_
   refine goOn ?_
   refine Wp.condF rfl ?_
   refine Wp.skipI ?_
   refine blockX.normal ?_
   refine goOn ?_
   refine Wp.regI I0.mono ?_
   refine GL.addR I0.mono rfl rfl (by omega) ?_
   refine GL.move I0.mono (by conv => lhs; whnf) ?_
   refine GL.doneF ?_
   refine ⟨i + 1, (by dsimp only; omega), _, (LessS.weak (LessS.upd (LessS.upd (LessS.upd (LessS.upd (LessS.upd (LessS.upd (LessS.upd (LessS.upd (LessS.upd (LessS.nil _) rfl) rfl) rfl) rfl) rfl) rfl) rfl) rfl) rfl) _), (by omega), _, (congrArg (St.mk _) (effM_eq (Has.cons rfl (Has.cons rfl (Has.cons rfl (Has.cons rfl (Has.cons rfl (Has.cons rfl (Has.cons rfl Has.nil)))))))).symm)⟩
  ·replace h170 := of_decide_eq_false h170
   refine Wp.exitI ?_
   refine thenX.exit ?_
   refine thenX.exit ?_
   refine blockX.out ?_
   refine goOn ?_
   refine Wp.seqI ?_
   refine Wp.regI I0.mono ?_
   refine GL.move I0.mono (by conv => lhs; whnf) ?_
   refine GL.bin I0.mono (v := .bool true) (by kernel_rfl) ?_
   refine GL.move I0.mono (by conv => lhs; whnf) ?_
   refine GL.guardT rfl ?_
   refine GL.move I0.mono (by conv => lhs; whnf) ?_
   refine GL.guardT rfl ?_
   refine GL.bin I0.mono (v := .bool true) (by kernel_rfl) ?_
   refine GL.pick I0.mono rfl (by conv => lhs; whnf) ?_
   refine GL.move I0.mono (by conv => lhs; whnf) ?_
   refine GL.guardT rfl ?_
   refine GL.loadW I0.mono (n := 4) rfl rfl rfl rfl (by simp) rfl rfl rfl ?_
   refine GL.guardT rfl ?_
   refine GL.loadW I0.mono (n := 7) rfl rfl rfl rfl (by simp) rfl rfl rfl ?_
   refine GL.guardT rfl ?_
   refine GL.callFl I0.mono rfl (Frz.aggc (by exact (Frz.aggc (by exact Frz.whole rfl rfl rfl rfl (by exact em_len _ _)) (Frz.aggc (by exact Frz.whole rfl rfl rfl rfl (by exact em_len _ _)) (Frz.aggc (by exact Frz.nils) (Frz.aggc (by exact Frz.whole rfl rfl rfl rfl (by exact em_len _ _)) Frz.aggn))))) (Frz.aggc (by exact Frz.pures rfl) Frz.aggn)) (costQ) (.sca rfl) rfl rfl ?_
   refine GL.guardT rfl ?_
   refine GL.bin I0.mono (v := .bool true) (by kernel_rfl) ?_
   refine GL.pick I0.mono rfl (by conv => lhs; whnf) ?_
   refine GL.move I0.mono (by conv => lhs; whnf) ?_
   refine GL.guardT rfl ?_
   refine GL.loadW I0.mono (n := 7) rfl rfl rfl rfl (by simp) rfl rfl rfl ?_
   refine GL.guardT rfl ?_
   refine GL.call0 I0.mono rfl (Frz.aggc (by exact Frz.pures rfl) Frz.aggn) (unass_c pQ rfl (l := [3]) (by decide)) rfl rfl (fun _ => rfl) ?_
   refine GL.guardT rfl ?_
   refine GL.buildSlice0 I0.mono (sz := 1) (z := [LV.int .i64 0]) (es := em ni [3]) rfl rfl rfl rfl (by decide) (by decide) (by decide) (FrzP.cons (S := []) (T := []) (Frz.aggc (S := []) (T := []) (Frz.pure rfl) Frz.aggn) rfl (by decide) rfl (FrzP.nil)) rfl ?_
   intro g206
   refine GL.guardT rfl ?_
   refine GL.callFl I0.mono rfl (Frz.aggc (Frz.pure rfl) (Frz.aggc (by exact Frz.whole rfl rfl rfl rfl rfl) Frz.aggn)) (sI_ok [3] (by unfold Short; decide)) (.sca rfl) rfl rfl ?_
   refine GL.pick I0.mono rfl (by conv => lhs; whnf) ?_
   refine GL.move I0.mono (by conv => lhs; whnf) ?_
   refine GL.guardT rfl ?_
   refine GL.loadW I0.mono (n := 7) rfl rfl rfl rfl (by simp) rfl rfl rfl ?_
   refine GL.guardT rfl ?_
   refine GL.loadW I0.mono (n := 7) rfl rfl rfl rfl (by simp) rfl rfl rfl ?_
   refine GL.guardT rfl ?_
   refine GL.call0 I0.mono rfl (Frz.aggc (by exact Frz.pures rfl) (Frz.aggc (by exact Frz.pures rfl) Frz.aggn)) (sameAQ) rfl rfl (fun _ => rfl) ?_
   refine GL.guardT rfl ?_
   refine GL.un I0.mono rfl ?_
   refine GL.pick I0.mono rfl (by conv => lhs; whnf) ?_
   refine GL.move I0.mono (by conv => lhs; whnf) ?_
   refine GL.guardT rfl ?_
   refine GL.call0 I0.mono rfl (Frz.aggn) (wakes08_ok) rfl rfl (fun _ => rfl) ?_
   refine GL.pick I0.mono rfl (by conv => lhs; whnf) ?_
   refine GL.assign I0.mono (by conv => lhs; whnf) ?_
   refine GL.doneF ?_
   refine goOn ?_
   refine Wp.retI ?_
   refine RetX.ret ?_
   refine ⟨_, _, _, _, .cons (.tmp rfl) .nil, .frz (.pure rfl), List.nodup_nil, by simp, ?_⟩
   rfl

end Go.Proofs.Ytffnlhjdlhpmjaa
