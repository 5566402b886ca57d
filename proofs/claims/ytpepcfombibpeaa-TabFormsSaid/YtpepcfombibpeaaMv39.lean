/- An instance that lets more be driven; a beginning of a route. -/
import Derived.Test.YtpepcfombibpeaaMv38
set_option linter.unusedVariables false
set_option linter.unusedSimpArgs false
namespace Go.Proofs.Ytpepcfombibpeaa.Mv

/-- The same ways, the same stops; what a car and closings let is no less. -/
structure Lax (i j : Inst) (c : Int) : Prop where
  travel : j.travel = i.travel
  pi : i.pairs = []
  pj : j.pairs = []
  len : j.stops.length = i.stops.length
  s0 : ∀ x, isStop i x = true → (stopAt j x).s0 = (stopAt i x).s0
  s1 : ∀ x, isStop i x = true → (stopAt j x).s1 = (stopAt i x).s1
  s2 : ∀ x, isStop i x = true → (stopAt i x).s2 ≤ (stopAt j x).s2
  s3 : ∀ x, isStop i x = true → (stopAt j x).s3 = (stopAt i x).s3
  cars : j.cars.length = i.cars.length
  c0 : (carAt i c).c0 ≤ (carAt j c).c0
  c1 : (carAt j c).c1 = (carAt i c).c1
  c2 : (carAt i c).c2 ≤ (carAt j c).c2
theorem Lax.cell {i j : Inst} {c : Int} (h : Lax i j c) (a b : Int) : Mv.cell j a b = Mv.cell i a b := by
  unfold Mv.cell
  rw [h.travel]
theorem Lax.isStop {i j : Inst} {c : Int} (h : Lax i j c) (x : Int) : Mv.isStop j x = Mv.isStop i x := by
  unfold Mv.isStop
  rw [h.len]
theorem Lax.order {i j : Inst} {c : Int} (h : Lax i j c) (l : List Int) : Mv.order j l = Mv.order i l := by
  unfold Mv.order chk
  simp only [h.isStop, h.pi, h.pj]
theorem Lax.begun {i j : Inst} {c : Int} (h : Lax i j c) {x : Int} (hx : Mv.isStop i x = true) (p k : Int) : Mv.begun j p k x = Mv.begun i p k x := by
  unfold Mv.begun
  rw [h.cell, h.s1 x hx]
theorem Lax.goes {i j : Inst} {c : Int} (h : Lax i j c) {x : Int} (hx : Mv.isStop i x = true) (p k : Int) : Mv.goes j p k x = Mv.goes i p k x := by
  unfold Mv.goes
  rw [h.begun hx, h.s3 x hx]
theorem Lax.arr {i j : Inst} {c : Int} (h : Lax i j c) : ∀ (l : List Int) (p k : Int), (∀ x ∈ l, Mv.isStop i x = true) → Mv.arr j p k l = Mv.arr i p k l
  | [], _, _, _ => rfl
  | x :: r, p, k, hv => by
    have hx := hv x (by simp)
    simp only [Mv.arr]
    rw [h.begun hx, h.goes hx, h.arr r _ _ fun y hy => hv y (by simp [hy])]
theorem Lax.lds {i j : Inst} {c : Int} (h : Lax i j c) : ∀ (l : List Int) (o : Int), (∀ x ∈ l, Mv.isStop i x = true) → Mv.lds j o l = Mv.lds i o l
  | [], _, _ => rfl
  | x :: r, o, hv => by
    simp only [Mv.lds]
    rw [h.s0 x (hv x (by simp)), h.lds r _ fun y hy => hv y (by simp [hy])]
theorem Lax.lv {i j : Inst} {c : Int} (h : Lax i j c) : ∀ (l : List Int) (p k : Int), (∀ x ∈ l, Mv.isStop i x = true) → Mv.lv j p k l = Mv.lv i p k l
  | [], _, _, _ => rfl
  | x :: r, p, k, hv => by
    simp only [Mv.lv]
    rw [h.goes (hv x (by simp)), h.lv r _ _ fun y hy => hv y (by simp [hy])]
theorem Lax.legs {i j : Inst} {c : Int} (h : Lax i j c) : ∀ (l : List Int) (p : Int), Mv.legs j p l = Mv.legs i p l
  | [], _ => rfl
  | x :: r, p => by
    simp only [Mv.legs]
    rw [h.cell, h.legs r x]
theorem Lax.fine {i j : Inst} {c : Int} (h : Lax i j c) : ∀ (l : List Int) (p k o : Int), (∀ x ∈ l, Mv.isStop i x = true) → Mv.fine i (carAt i c) p k o l = true → Mv.fine j (carAt j c) p k o l = true
  | [], p, k, o, _, hf => by
    have h2 := h.c2
    simp only [Mv.fine, decide_eq_true_eq] at hf ⊢
    rw [h.cell]
    omega
  | x :: r, p, k, o, hv, hf => by
    have hx := hv x (by simp)
    have h0 := h.c0
    have h2 := h.s2 x hx
    simp only [Mv.fine, Bool.and_eq_true, decide_eq_true_eq] at hf ⊢
    rw [h.begun hx, h.goes hx, h.s0 x hx]
    exact ⟨by omega, hf.2.1, by omega, h.fine r _ _ _ (fun y hy => hv y (by simp [hy])) hf.2.2.2⟩
theorem Lax.cost {i j : Inst} {N : Nat} {c : Int} (h : Lax i j c) (hi : Sq i N) (hj : Sq j N) {l : List Int} (hl : l.length ≤ 1000) (hv : ∀ x ∈ l, Mv.isStop i x = true) : Mv.cost j l = Mv.cost i l := by
  have e1 : Mv.cost i l = _ := costGo_legs hi l 0 0 (by omega) (by omega) (by omega) (by omega) hv
  have e2 : Mv.cost j l = _ := costGo_legs hj l 0 0 (by omega) (by omega) (by omega) (by omega) fun x hx => by rw [h.isStop]; exact hv x hx
  rw [e1, e2, h.legs, h.cell]
theorem Lax.eval {i j : Inst} {N : Nat} {c : Int} (h : Lax i j c) (hi : Sb i N) (hj : Sb j N) (h0 : 0 ≤ c) (h1 : c < i.cars.length) {l : List Int} (hl : l.length ≤ 1000) {T : Trip} (he : Mv.eval i c l = some T) : Mv.eval j c l = some T := by
  rw [eval_eq hi h0 h1] at he
  split at he
  · rename_i hc
    have hv := order_all hc.1
    rw [eval_eq hj h0 (by rw [h.cars]; exact h1), if_pos ⟨by rw [h.order]; exact hc.1, by rw [h.c1]; exact h.fine l _ _ _ hv hc.2⟩, h.c1, h.arr l _ _ hv, h.lds l _ hv, h.lv l _ _ hv, h.cell, h.cost hi.sq hj.sq hl hv]
    exact he
  · cases he
theorem arr_cut (i : Inst) : ∀ (l : List Int) (p k : Int) (n : Nat), arr i p k (l.take n) = (arr i p k l).take n
  | _, _, _, 0 => by simp [arr]
  | [], _, _, n + 1 => rfl
  | x :: r, p, k, n + 1 => by simp [arr, arr_cut i r]
theorem lds_cut (i : Inst) : ∀ (l : List Int) (o : Int) (n : Nat), lds i o (l.take n) = (lds i o l).take n
  | _, _, 0 => by simp [lds]
  | [], _, n + 1 => rfl
  | x :: r, o, n + 1 => by simp [lds, lds_cut i r]
/-- A beginning's arrivals and loads are those of the whole. -/
theorem Lax.cut {i j : Inst} {N : Nat} {c : Int} (h : Lax i j c) (hi : Sb i N) (hj : Sb j N) (h0 : 0 ≤ c) (h1 : c < i.cars.length) {l : List Int} {T V : Trip} {n : Nat} (he : Mv.eval i c l = some T) (hc : Mv.eval j c (l.take n) = some V) : V.t0 = T.t0.take n ∧ V.t1 = T.t1.take n := by
  rw [eval_eq hi h0 h1] at he
  rw [eval_eq hj h0 (by rw [h.cars]; exact h1)] at hc
  split at he
  · rename_i hq
    have hv := order_all hq.1
    have hvt : ∀ x ∈ l.take n, Mv.isStop i x = true := fun x hx => hv x (List.mem_of_mem_take hx)
    split at hc
    · injection he with he
      injection hc with hc
      subst he hc
      exact ⟨by rw [h.c1, h.arr _ _ _ hvt, arr_cut], by rw [h.lds _ _ hvt, lds_cut]⟩
    · cases hc
  · cases he

/-! ### The instance of a law that lets more -/
def laxStop (w : Int) (s : Stop) : Stop := ⟨s.s0, s.s1, imin (s.s2 + w) 1000, s.s3⟩
def laxStops (w : Int) (l : List Stop) : Nat → List Stop
  | 0 => l
  | k + 1 => (laxStops w l k).set k (laxStop w ((laxStops w l k).getD k default))
theorem laxStops_len (w : Int) (l : List Stop) : ∀ k, (laxStops w l k).length = l.length
  | 0 => rfl
  | k + 1 => by simp [laxStops, laxStops_len w l k]
theorem laxStops_get (w : Int) (l : List Stop) : ∀ (k a : Nat), a < l.length → (laxStops w l k).getD a default = if a < k then laxStop w (l.getD a default) else l.getD a default
  | 0, a, h => by simp [laxStops]
  | k + 1, a, h => by
    have ha := laxStops_get w l k a h
    simp only [laxStops]
    rw [getD_set _ _ _ _ (by rw [laxStops_len]; exact h)]
    by_cases e : k = a
    · subst e
      rw [if_pos rfl, if_pos (by omega), ha, if_neg (by omega)]
    · rw [if_neg e, ha]
      by_cases e2 : a < k
      · rw [if_pos e2, if_pos (by omega)]
      · rw [if_neg e2, if_neg (by omega)]
theorem imin_le (x y : Int) : imin x y ≤ x ∧ imin x y ≤ y ∧ (imin x y = x ∨ imin x y = y) := by
  unfold imin
  split <;> omega
theorem getD_set_same {α : Type} [Inhabited α] (l : List α) (j : Nat) (v : α) (h : j < l.length) : (l.set j v).getD j default = v := by
  rw [getD_set _ _ _ _ h, if_pos rfl]
def noPairs (i : Inst) : Inst := ⟨i.cars, i.stops, [], i.travel⟩
/-- Later ends of the shift (b), greater cars (a), later closings (w). -/
def laxInst (i : Inst) (c : Int) (a b w : Int) : Inst := ⟨i.cars.set c.toNat ⟨imin ((carAt i c).c0 + a) 60, (carAt i c).c1, imin ((carAt i c).c2 + b) 1000⟩, laxStops w i.stops i.stops.length, [], i.travel⟩
def laxEnd (i : Inst) (c : Int) (a w : Int) : Inst := ⟨i.cars.set c.toNat ⟨imin ((carAt i c).c0 + a) 60, (carAt i c).c1, 1000⟩, laxStops w i.stops i.stops.length, [], i.travel⟩
theorem noPairs_sb {i : Inst} {N : Nat} (h : Sb i N) : Sb (noPairs i) N := by
  obtain ⟨⟨⟨s1, s2, s3, s4, s5⟩, q2, q3, q4, q5, q6, q7, q8, q9, q10⟩, h2, h3⟩ := h
  exact ⟨⟨⟨s1, s2, by unfold Short; simp [noPairs], s4, s5⟩, q2, q3, q4, q5, q6, q7, q8, q9, q10⟩, h2, h3⟩
theorem lax_sb {i : Inst} {N : Nat} (h : Sb i N) {c : Int} (h0 : 0 ≤ c) (h1 : c < i.cars.length) {v : Car} (hv : 0 ≤ v.c0 ∧ v.c0 ≤ 1000 ∧ 0 ≤ v.c1 ∧ v.c1 ≤ 1000 ∧ 0 ≤ v.c2 ∧ v.c2 ≤ 1000) (w : Int) : Sb ⟨i.cars.set c.toNat v, laxStops w i.stops i.stops.length, [], i.travel⟩ N := by
  obtain ⟨⟨⟨s1, s2, s3, s4, s5⟩, q2, q3, q4, q5, q6, q7, q8, q9, q10⟩, g2, g3⟩ := h
  refine ⟨⟨⟨by unfold Short at *; simpa using s1, by unfold Short at *; rw [laxStops_len]; exact s2, by unfold Short; simp, s4, s5⟩, q2, q3, by simpa using q4, by simpa using q5, by show (laxStops _ _ _).length = _; rw [laxStops_len]; exact q6, q7, q8, q9, q10⟩, fun a ha => ?_, fun a ha => ?_⟩
  · have ha' : a < i.cars.length := by simpa using ha
    show 0 ≤ ((i.cars.set c.toNat v).getD a default).c0 ∧ _
    rw [getD_set _ _ _ _ ha']
    by_cases e : c.toNat = a
    · rw [if_pos e]; exact hv
    · rw [if_neg e]; exact g2 a ha'
  · have hs := g3 a ha
    show -1000 ≤ ((laxStops w i.stops i.stops.length).getD a default).s0 ∧ _
    rw [laxStops_get _ _ _ _ (by omega), if_pos (by omega)]
    have := imin_le ((i.stops.getD a default).s2 + w) 1000
    exact ⟨hs.1, hs.2.1, hs.2.2.1, hs.2.2.2.1, this.2.1, hs.2.2.2.2.2.1, hs.2.2.2.2.2.2⟩
theorem lax_of {i : Inst} {N : Nat} (h : Sb i N) {c : Int} (h0 : 0 ≤ c) (h1 : c < i.cars.length) {v : Car} (e0 : (carAt i c).c0 ≤ v.c0) (e1 : v.c1 = (carAt i c).c1) (e2 : (carAt i c).c2 ≤ v.c2) {w : Int} (hw : 0 ≤ w) : Lax (noPairs i) ⟨i.cars.set c.toNat v, laxStops w i.stops i.stops.length, [], i.travel⟩ c := by
  have hc : carAt ⟨i.cars.set c.toNat v, laxStops w i.stops i.stops.length, [], i.travel⟩ c = v := getD_set_same _ _ _ (by omega)
  have hst := h.sq.stops
  have hs : ∀ x, isStop (noPairs i) x = true → stopAt ⟨i.cars.set c.toNat v, laxStops w i.stops i.stops.length, [], i.travel⟩ x = laxStop w (stopAt i x) := fun x hx => by
    have hx2 : 1 ≤ x ∧ x ≤ i.stops.length := isStop_le hx
    show (laxStops w i.stops i.stops.length).getD (x - 1).toNat default = _
    rw [laxStops_get _ _ _ _ (by omega), if_pos (by omega)]
    rfl
  refine ⟨rfl, rfl, rfl, laxStops_len _ _ _, fun x hx => ?_, fun x hx => ?_, fun x hx => ?_, fun x hx => ?_, by simp [noPairs], ?_, ?_, ?_⟩
  · rw [hs x hx]; rfl
  · rw [hs x hx]; rfl
  · rw [hs x hx]
    have hb := h.at (x := x) hx
    have := imin_le ((stopAt i x).s2 + w) 1000
    obtain ⟨-, -, -, -, b5, -⟩ := hb
    show (stopAt i x).s2 ≤ imin ((stopAt i x).s2 + w) 1000
    omega
  · rw [hs x hx]; rfl
  · rw [hc]; exact e0
  · rw [hc]; exact e1
  · rw [hc]; exact e2
end Go.Proofs.Ytpepcfombibpeaa.Mv
