/- How a route is driven, in closed form; what is known of an instance's numbers. -/
import Derived.Test.YtpepcfombibpeaaMv33
set_option linter.unusedVariables false
set_option linter.unusedSimpArgs false
namespace Go.Proofs.Ytpepcfombibpeaa.Mv

/-- An instance whose numbers are small. -/
structure Sb (i : Inst) (N : Nat) : Prop where
  sq : Sq i N
  car : ∀ a, a < i.cars.length → 0 ≤ (i.cars.getD a default).c0 ∧ (i.cars.getD a default).c0 ≤ 1000 ∧ 0 ≤ (i.cars.getD a default).c1 ∧ (i.cars.getD a default).c1 ≤ 1000 ∧ 0 ≤ (i.cars.getD a default).c2 ∧ (i.cars.getD a default).c2 ≤ 1000
  stop : ∀ a, a < N → -1000 ≤ (i.stops.getD a default).s0 ∧ (i.stops.getD a default).s0 ≤ 1000 ∧ 0 ≤ (i.stops.getD a default).s1 ∧ (i.stops.getD a default).s1 ≤ 2000 ∧ (i.stops.getD a default).s2 ≤ 1000 ∧ 0 ≤ (i.stops.getD a default).s3 ∧ (i.stops.getD a default).s3 ≤ 1000

theorem nth4 {Q : Int → Prop} {a b c d : Int} (h0 : Q a) (h1 : Q b) (h2 : Q c) (h3 : Q d) {j : Nat} (h : j < 4) : Q ([a, b, c, d].getD j default) :=
  match j, h with
  | 0, _ => h0
  | 1, _ => h1
  | 2, _ => h2
  | 3, _ => h3
theorem within4 (a : Int) : (within a 4).toNat < 4 := by
  have := within_in (a := a) (n := 4) (by decide)
  omega
theorem carOf_in (z : List Int) (k : Int) : 0 ≤ (carOf z k).c0 ∧ (carOf z k).c0 ≤ 1000 ∧ 0 ≤ (carOf z k).c1 ∧ (carOf z k).c1 ≤ 1000 ∧ 0 ≤ (carOf z k).c2 ∧ (carOf z k).c2 ≤ 1000 := by
  have h0 : 0 ≤ (carOf z k).c0 ∧ (carOf z k).c0 ≤ 1000 := nth4 (Q := fun n => 0 ≤ n ∧ n ≤ 1000) (by decide) (by decide) (by decide) (by decide) (within4 _)
  have h2 : 0 ≤ (carOf z k).c2 ∧ (carOf z k).c2 ≤ 1000 := nth4 (Q := fun n => 0 ≤ n ∧ n ≤ 1000) (by decide) (by decide) (by decide) (by decide) (within4 _)
  have h1 := within_in (a := (num z (1 + k)).tdiv 4) (n := 9) (by decide)
  have e1 : (carOf z k).c1 = within ((num z (1 + k)).tdiv 4) 9 := rfl
  omega
def StopIn (s : Stop) : Prop := -1000 ≤ s.s0 ∧ s.s0 ≤ 1000 ∧ 0 ≤ s.s1 ∧ s.s1 ≤ 2000 ∧ s.s2 ≤ 1000 ∧ 0 ≤ s.s3 ∧ s.s3 ≤ 1000
theorem stopOf_in (z : List Int) (k : Int) : StopIn (stopOf z k) := by
  have h1 := within_in (a := (num z (5 + k)).tdiv 9) (n := 4) (by decide)
  have h2 := within_in (a := num z (5 + k)) (n := 8) (by decide)
  have h3 := within_in (a := (num z (5 + k)).tdiv 8) (n := 30) (by decide)
  have h4 := within_in (a := (num z (5 + k)).tdiv 240) (n := 6) (by decide)
  refine ⟨?_, ?_, ?_, ?_, ?_, ?_, ?_⟩ <;> simp only [stopOf]
  · split <;> omega
  · split <;> omega
  · omega
  · omega
  · unfold imin; split <;> omega
  · omega
  · omega
theorem getD_set {α : Type} [Inhabited α] (l : List α) (j a : Nat) (v : α) (h : a < l.length) : (l.set j v).getD a default = if j = a then v else l.getD a default := by
  rw [List.getD_eq_getElem?_getD, List.getElem?_set]
  by_cases e : j = a
  · subst e; simp [h]
  · simp [e]
theorem setQ_in {l : List Stop} (h : ∀ a, a < l.length → StopIn (l.getD a default)) (j : Nat) {q : Int} (h1 : -1000 ≤ q) (h2 : q ≤ 1000) : ∀ a, a < (setQ l j q).length → StopIn ((setQ l j q).getD a default) := by
  intro a ha
  rw [setQ_len] at ha
  unfold setQ
  rw [getD_set _ _ _ _ ha]
  by_cases e : j = a
  · subst e
    rw [if_pos rfl]
    obtain ⟨-, -, h3⟩ := h j ha
    exact ⟨h1, h2, h3⟩
  · rw [if_neg e]
    exact h a ha
theorem stopsK_in {z : List Int} {l : List Stop} (h : ∀ a, a < l.length → StopIn (l.getD a default)) : ∀ k a, a < (stopsK z l k).length → StopIn ((stopsK z l k).getD a default)
  | 0 => h
  | k + 1 => by
    have hq := within_in (a := num z (16 + (k : Int))) (n := 9) (by decide)
    have e : pairQ z k = within (num z (16 + (k : Int))) 9 := rfl
    exact setQ_in (setQ_in (stopsK_in h k) _ (by omega) (by omega)) _ (by omega) (by omega)
theorem inst_sb (z : List Int) : Sb (instOf z) (nStops z) := by
  refine ⟨inst_sq z, fun a ha => ?_, fun a ha => ?_⟩
  · rw [inst_cars] at ha
    have : (instOf z).cars.getD a default = carOf z a := by simp [instOf, cars, ha]
    rw [this]
    exact carOf_in z a
  · refine stopsK_in (z := z) (fun a ha => ?_) (nPairs z) a (by rw [stopsK_len, stops0_len]; exact ha)
    rw [stops0_len] at ha
    have : (stops0 z (nStops z)).getD a default = stopOf z a := by simp [stops0, ha]
    rw [this]
    exact stopOf_in z a

/-! ### A route, driven -/
def begun (i : Inst) (p k x : Int) : Int := imax (stopAt i x).s1 (k + Mv.cell i p x)
def goes (i : Inst) (p k x : Int) : Int := begun i p k x + (stopAt i x).s3
/-- Can it be driven from p on, left at k, with o loaded? -/
def fine (i : Inst) (c : Car) : Int → Int → Int → List Int → Bool
  | p, k, _, [] => decide (k + Mv.cell i p 0 ≤ c.c2)
  | p, k, o, x :: r => decide (begun i p k x ≤ (stopAt i x).s2) && (decide (0 ≤ o + (stopAt i x).s0) && (decide (o + (stopAt i x).s0 ≤ c.c0) && fine i c x (goes i p k x) (o + (stopAt i x).s0) r))
def arr (i : Inst) : Int → Int → List Int → List Int
  | _, _, [] => []
  | p, k, x :: r => begun i p k x :: arr i x (goes i p k x) r
def lds (i : Inst) : Int → List Int → List Int
  | _, [] => []
  | o, x :: r => (o + (stopAt i x).s0) :: lds i (o + (stopAt i x).s0) r
def lv (i : Inst) : Int → Int → List Int → Int
  | _, k, [] => k
  | p, k, x :: r => lv i x (goes i p k x) r
def ld (i : Inst) : Int → List Int → Int
  | o, [] => o
  | o, x :: r => ld i (o + (stopAt i x).s0) r

theorem imax_ge (x y : Int) : x ≤ imax x y ∧ y ≤ imax x y ∧ (imax x y = x ∨ imax x y = y) := by
  unfold imax
  split <;> omega
theorem Sb.at {i : Inst} {N : Nat} (h : Sb i N) {x : Int} (hx : isStop i x = true) : StopIn (stopAt i x) := by
  have hx2 := isStop_le hx
  rw [h.sq.stops] at hx2
  exact h.stop _ (by omega)
theorem evalGo_fine {i : Inst} {N : Nat} (hb : Sb i N) {c : Car} (hc : c.c0 ≤ 1000) : ∀ (l : List Int) (p k o : Int) (ss ls : List Int), 0 ≤ p → p ≤ N → 0 ≤ k → k ≤ 3000 → 0 ≤ o → o ≤ 1000 → (∀ x ∈ l, isStop i x = true) →
    evalGo i c p k o ss ls l = if fine i c p k o l = true then some (ss ++ arr i p k l, ls ++ lds i o l, lv i p k l + Mv.cell i (lastOf p l) 0) else none
  | [], p, k, o, ss, ls, hp, hp2, hk, hk2, _, _, _ => by
    have hc := hb.sq.cell_in hp hp2 (b := 0) (by omega) (by omega)
    simp only [evalGo, fine, arr, lds, lv, lastOf, List.append_nil]
    rw [hb.sq.way hp hp2 (by omega) (by omega), wadd_small (by omega)]
    by_cases h : k + Mv.cell i p 0 ≤ c.c2
    · rw [if_neg (by omega), if_pos (by simpa using h)]
    · rw [if_pos (by omega), if_neg (by simpa using h)]
  | x :: r, p, k, o, ss, ls, hp, hp2, hk, hk2, ho, ho2, hv => by
    have hx := hv x (by simp)
    have hx2 := isStop_le hx
    rw [hb.sq.stops] at hx2
    have hw := hb.sq.cell_in hp hp2 (b := x) (by omega) (by omega)
    obtain ⟨s1, s2, s3, s4, s5, s6, s7⟩ := hb.at hx
    have hm := imax_ge (stopAt i x).s1 (k + Mv.cell i p x)
    have eB : imax (stopAt i x).s1 (k + Mv.cell i p x) = begun i p k x := rfl
    have eG : begun i p k x + (stopAt i x).s3 = goes i p k x := rfl
    rw [eB] at hm
    simp only [evalGo, fine, arr, lds, lv, lastOf]
    rw [hb.sq.way hp hp2 (by omega) (by omega), wadd_small (a := k) (by omega), wadd_small (a := o) (by omega), eB]
    by_cases h1 : begun i p k x ≤ (stopAt i x).s2
    · by_cases h2 : 0 ≤ o + (stopAt i x).s0
      · by_cases h3 : o + (stopAt i x).s0 ≤ c.c0
        · rw [if_neg (by omega), wadd_small (by omega), eG, evalGo_fine hb hc r x _ _ _ _ (by omega) (by omega) (by omega) (by omega) (by omega) (by omega) fun y hy => hv y (by simp [hy])]
          simp only [h1, h2, h3, decide_true, Bool.true_and, List.append_assoc, List.singleton_append]
        · rw [if_pos (by omega)]; simp [h3]
      · rw [if_pos (by omega)]; simp [h2]
    · rw [if_pos (by omega)]; simp [h1]
theorem arr_len (i : Inst) : ∀ (l : List Int) (p k : Int), (arr i p k l).length = l.length
  | [], _, _ => rfl
  | x :: r, p, k => by simp [arr, arr_len i r]
theorem lds_len (i : Inst) : ∀ (l : List Int) (o : Int), (lds i o l).length = l.length
  | [], _ => rfl
  | x :: r, o => by simp [lds, lds_len i r]
theorem arr_get (i : Inst) : ∀ (l : List Int) (p k : Int) (j : Nat), j < l.length → (arr i p k l).getD j default = begun i (lastOf p (l.take j)) (lv i p k (l.take j)) (l.getD j default)
  | [], _, _, _, h => absurd h (by simp)
  | x :: r, p, k, 0, _ => rfl
  | x :: r, p, k, j + 1, h => by
    have := arr_get i r x (goes i p k x) j (by simpa using h)
    simpa [arr, lastOf, lv] using this
theorem lv_take (i : Inst) : ∀ (l : List Int) (p k : Int) (j : Nat), j < l.length → lv i p k (l.take (j + 1)) = goes i (lastOf p (l.take j)) (lv i p k (l.take j)) (l.getD j default)
  | [], _, _, _, h => absurd h (by simp)
  | x :: r, p, k, 0, _ => by simp [lv, lastOf]
  | x :: r, p, k, j + 1, h => by
    have := lv_take i r x (goes i p k x) j (by simpa using h)
    simpa [lastOf, lv] using this
theorem lds_get (i : Inst) : ∀ (l : List Int) (o : Int) (j : Nat), j < l.length → (lds i o l).getD j default = ld i o (l.take (j + 1))
  | [], _, _, h => absurd h (by simp)
  | x :: r, o, 0, _ => by simp [lds, ld]
  | x :: r, o, j + 1, h => by
    have := lds_get i r (o + (stopAt i x).s0) j (by simpa using h)
    simpa [lds, ld] using this
theorem ld_take (i : Inst) : ∀ (l : List Int) (o : Int) (j : Nat), j < l.length → ld i o (l.take (j + 1)) = ld i o (l.take j) + (stopAt i (l.getD j default)).s0
  | [], _, _, h => absurd h (by simp)
  | x :: r, o, 0, _ => by simp [ld]
  | x :: r, o, j + 1, h => by
    have := ld_take i r (o + (stopAt i x).s0) j (by simpa using h)
    simpa [ld] using this
theorem legs_take (i : Inst) : ∀ (l : List Int) (p : Int) (j : Nat), j < l.length → legs i p (l.take (j + 1)) = legs i p (l.take j) + Mv.cell i (lastOf p (l.take j)) (l.getD j default)
  | [], _, _, h => absurd h (by simp)
  | x :: r, p, 0, _ => by simp [legs, lastOf]
  | x :: r, p, j + 1, h => by
    have := legs_take i r x j (by simpa using h)
    simp only [List.take_succ_cons, legs, lastOf, List.getD_cons_succ] at this ⊢
    omega
theorem fine_all (i : Inst) (c : Car) : ∀ (l : List Int) (p k o : Int), fine i c p k o l = true → (∀ j, j < l.length → begun i (lastOf p (l.take j)) (lv i p k (l.take j)) (l.getD j default) ≤ (stopAt i (l.getD j default)).s2 ∧ 0 ≤ ld i o (l.take (j + 1)) ∧ ld i o (l.take (j + 1)) ≤ c.c0) ∧
    lv i p k l + Mv.cell i (lastOf p l) 0 ≤ c.c2
  | [], p, k, o, h => ⟨fun j hj => absurd hj (by simp), by simpa [fine, lv, lastOf] using h⟩
  | x :: r, p, k, o, h => by
    simp only [fine, Bool.and_eq_true, decide_eq_true_eq] at h
    obtain ⟨h1, h2⟩ := fine_all i c r _ _ _ h.2.2.2
    refine ⟨fun j hj => ?_, h2⟩
    match j, hj with
    | 0, _ => exact ⟨h.1, h.2.1, h.2.2.1⟩
    | j + 1, hj => simpa [lastOf, lv, ld] using h1 j (by simpa using hj)
theorem fine_of (i : Inst) (c : Car) : ∀ (l : List Int) (p k o : Int), (∀ j, j < l.length → begun i (lastOf p (l.take j)) (lv i p k (l.take j)) (l.getD j default) ≤ (stopAt i (l.getD j default)).s2 ∧ 0 ≤ ld i o (l.take (j + 1)) ∧ ld i o (l.take (j + 1)) ≤ c.c0) →
    lv i p k l + Mv.cell i (lastOf p l) 0 ≤ c.c2 → fine i c p k o l = true
  | [], p, k, o, _, h => by simpa [fine, lv, lastOf] using h
  | x :: r, p, k, o, h, h2 => by
    have h0 := h 0 (by simp)
    simp only [fine, Bool.and_eq_true, decide_eq_true_eq]
    refine ⟨by simpa [lastOf, lv] using h0.1, by simpa [ld] using h0.2.1, by simpa [ld] using h0.2.2, fine_of i c r _ _ _ (fun j hj => ?_) h2⟩
    simpa [lastOf, lv, ld] using h (j + 1) (by simpa using hj)
/-- The whole of 'eval'. -/
theorem order_all {i : Inst} {l : List Int} (h : order i l = true) : ∀ x ∈ l, isStop i x = true := fun x hx => by
  obtain ⟨j, hj, rfl⟩ := List.getElem_of_mem hx
  have := order_stop h j hj
  rwa [List.getD_eq_getElem?_getD, List.getElem?_eq_getElem hj] at this
def carAt (i : Inst) (car : Int) : Car := i.cars.getD car.toNat default
theorem eval_eq {i : Inst} {N : Nat} (hb : Sb i N) {car : Int} (h0 : 0 ≤ car) (h1 : car < i.cars.length) (l : List Int) :
    eval i car l = if order i l = true ∧ fine i (carAt i car) 0 (carAt i car).c1 0 l = true then
      some ⟨arr i 0 (carAt i car).c1 l, lds i 0 l, cost i l, lv i 0 (carAt i car).c1 l + Mv.cell i (lastOf 0 l) 0⟩ else none := by
  have hc := hb.car car.toNat (by omega)
  cases ho : order i l with
  | false => rw [eval, if_pos (.inr (.inr ho)), if_neg (by simp)]
  | true =>
    rw [eval, if_neg (by rw [ho]; simp; omega), evalGo_fine hb (by omega) l 0 _ 0 [] [] (by omega) (by omega) (by omega) (by omega) (by omega) (by omega) (order_all ho)]
    show Option.map _ (if fine i (carAt i car) 0 (carAt i car).c1 0 l = true then _ else _) = _
    by_cases hf : fine i (carAt i car) 0 (carAt i car).c1 0 l = true
    · rw [if_pos hf, if_pos ⟨rfl, hf⟩]; rfl
    · rw [if_neg hf, if_neg (fun h => hf h.2)]; rfl
theorem row_short (i : Inst) (z : List Int) : (rowOf i z).length ≤ 14 := by
  have := rowK_len i z (min z.length 7)
  unfold rowOf
  omega
theorem lastOf_in {I : Inst} : ∀ (r : List Int) (p : Int), (∀ x ∈ r, isStop I x = true) → 0 ≤ p → p ≤ I.stops.length → 0 ≤ lastOf p r ∧ lastOf p r ≤ I.stops.length
  | [], _, _, h0, h1 => ⟨h0, h1⟩
  | x :: r, _, hv, _, _ => by
    have := isStop_le (hv x (by simp))
    exact lastOf_in r x (fun y hy => hv y (by simp [hy])) (by omega) (by omega)
theorem lastOf_take : ∀ (l : List Int) (p : Int) (k : Nat), k < l.length → lastOf p (l.take (k + 1)) = l.getD k default
  | [], _, _, h => absurd h (by simp)
  | x :: l, p, 0, _ => rfl
  | x :: l, p, k + 1, h => by
    have := lastOf_take l x k (by simpa using h)
    simpa [lastOf] using this
/-- The facts of a route that is driven, place by place. -/
structure Drv (I : Inst) (N : Nat) (c : Car) (r : List Int) (T : Trip) : Prop where
  len0 : T.t0.length = r.length
  len1 : T.t1.length = r.length
  at' : ∀ j, j < r.length → 1 ≤ r.getD j default ∧ r.getD j default ≤ N ∧ 0 ≤ lastOf 0 (r.take j) ∧ lastOf 0 (r.take j) ≤ N ∧ 0 ≤ lv I 0 c.c1 (r.take j) ∧ lv I 0 c.c1 (r.take j) ≤ 3000 ∧
    (I.travel.getD (lastOf 0 (r.take j)).toNat default).length = N + 1 ∧ 0 ≤ (I.travel.getD (lastOf 0 (r.take j)).toNat default).getD (r.getD j default).toNat default ∧ (I.travel.getD (lastOf 0 (r.take j)).toNat default).getD (r.getD j default).toNat default ≤ 14 ∧
    (I.stops.getD (r.getD j default - 1).toNat default).s1 ≤ T.t0.getD j default ∧ T.t0.getD j default ≤ (I.stops.getD (r.getD j default - 1).toNat default).s2 ∧
    lv I 0 c.c1 (r.take j) + (I.travel.getD (lastOf 0 (r.take j)).toNat default).getD (r.getD j default).toNat default ≤ T.t0.getD j default ∧
    (T.t0.getD j default = lv I 0 c.c1 (r.take j) + (I.travel.getD (lastOf 0 (r.take j)).toNat default).getD (r.getD j default).toNat default ∨ T.t0.getD j default = (I.stops.getD (r.getD j default - 1).toNat default).s1) ∧
    T.t1.getD j default = ld I 0 (r.take (j + 1)) ∧ ld I 0 (r.take (j + 1)) = ld I 0 (r.take j) + (I.stops.getD (r.getD j default - 1).toNat default).s0 ∧ 0 ≤ ld I 0 (r.take (j + 1)) ∧ ld I 0 (r.take (j + 1)) ≤ c.c0 ∧
    lv I 0 c.c1 (r.take (j + 1)) = T.t0.getD j default + (I.stops.getD (r.getD j default - 1).toNat default).s3 ∧ lastOf 0 (r.take (j + 1)) = r.getD j default ∧
    legs I 0 (r.take (j + 1)) = legs I 0 (r.take j) + (I.travel.getD (lastOf 0 (r.take j)).toNat default).getD (r.getD j default).toNat default ∧ 0 ≤ legs I 0 (r.take j) ∧ legs I 0 (r.take j) ≤ 100000 ∧
    0 ≤ ld I 0 (r.take j) ∧ ld I 0 (r.take j) ≤ 1000 ∧ StopIn (I.stops.getD (r.getD j default - 1).toNat default)
  home : 0 ≤ lastOf 0 r ∧ lastOf 0 r ≤ N ∧ 0 ≤ lv I 0 c.c1 r ∧ lv I 0 c.c1 r ≤ 3000 ∧ (I.travel.getD (lastOf 0 r).toNat default).length = N + 1 ∧ 0 ≤ (I.travel.getD (lastOf 0 r).toNat default).getD (Int.toNat 0) default ∧ (I.travel.getD (lastOf 0 r).toNat default).getD (Int.toNat 0) default ≤ 14 ∧
    T.t3 = lv I 0 c.c1 r + (I.travel.getD (lastOf 0 r).toNat default).getD (Int.toNat 0) default ∧ T.t3 ≤ c.c2 ∧ T.t2 = legs I 0 r + (I.travel.getD (lastOf 0 r).toNat default).getD (Int.toNat 0) default ∧ cost I r = T.t2 ∧ 0 ≤ legs I 0 r ∧ legs I 0 r ≤ 100000
theorem lv_in {I : Inst} {N : Nat} (hb : Sb I N) : ∀ (l : List Int) (p k : Int), (∀ x ∈ l, isStop I x = true) → 0 ≤ p → p ≤ N → 0 ≤ k → k ≤ 3000 → (∀ j, j < l.length → begun I (lastOf p (l.take j)) (lv I p k (l.take j)) (l.getD j default) ≤ (stopAt I (l.getD j default)).s2) → 0 ≤ lv I p k l ∧ lv I p k l ≤ 3000
  | [], _, _, _, _, _, h0, h1, _ => ⟨h0, h1⟩
  | x :: r, p, k, hv, hp, hp2, h0, h1, h => by
    have hx := hv x (by simp)
    have hx2 := isStop_le hx
    rw [hb.sq.stops] at hx2
    have hw := hb.sq.cell_in hp hp2 (b := x) (by omega) (by omega)
    obtain ⟨s1, s2, s3, s4, s5, s6, s7⟩ := hb.at hx
    have hm := imax_ge (stopAt I x).s1 (k + Mv.cell I p x)
    have hg : begun I p k x ≤ (stopAt I x).s2 := by simpa [lastOf, lv] using h 0 (by simp)
    unfold begun at hg
    refine lv_in hb r x _ (fun y hy => hv y (by simp [hy])) (by omega) (by omega) (by unfold goes begun; omega) (by unfold goes begun; omega) fun j hj => ?_
    simpa [lastOf, lv] using h (j + 1) (by simpa using hj)
theorem drv_of {I : Inst} {N : Nat} (hb : Sb I N) {car : Int} (h0 : 0 ≤ car) (h1 : car < I.cars.length) {r : List Int} (hrl : r.length ≤ 1000) {T : Trip} (h : eval I car r = some T) : Drv I N (carAt I car) r T := by
  rw [eval_eq hb h0 h1] at h
  split at h
  · rename_i hc
    injection h with h
    subst h
    obtain ⟨ho, hf⟩ := hc
    have hv := order_all ho
    obtain ⟨hj, hh⟩ := fine_all I _ r 0 _ 0 hf
    have hca := hb.car car.toNat (by omega)
    have hst := hb.sq.stops
    have hvt : ∀ j, ∀ x ∈ r.take j, isStop I x = true := fun j x hx => hv x (List.mem_of_mem_take hx)
    have hlv : ∀ j, j ≤ r.length → 0 ≤ lv I 0 (carAt I car).c1 (r.take j) ∧ lv I 0 (carAt I car).c1 (r.take j) ≤ 3000 := fun j hjl =>
      lv_in hb (r.take j) 0 _ (hvt j) (by omega) (by omega) (by unfold carAt; omega) (by unfold carAt; omega) fun q hq => by
        have hq2 : q < j ∧ q < r.length := by simp at hq; omega
        have := (hj q hq2.2).1
        rw [List.take_take, show min q j = q by omega]
        have e : (r.take j).getD q default = r.getD q default := by simp [List.getElem?_take, hq2.1]
        rw [e]
        exact this
    have hla : ∀ j, 0 ≤ lastOf 0 (r.take j) ∧ lastOf 0 (r.take j) ≤ N := fun j => by
      have := lastOf_in (r.take j) 0 (hvt j) (by omega) (by omega)
      omega
    have hlg : ∀ j, j ≤ r.length → 0 ≤ legs I 0 (r.take j) ∧ legs I 0 (r.take j) ≤ 100000 := fun j hjl => by
      have := legs_in hb.sq (r.take j) 0 (by omega) (by omega) (hvt j)
      simp at this
      omega
    have hld : ∀ j, j ≤ r.length → 0 ≤ ld I 0 (r.take j) ∧ ld I 0 (r.take j) ≤ 1000 := fun j hjl => by
      cases j with
      | zero => simp [ld]
      | succ j =>
        have := (hj j (by omega)).2
        unfold carAt at this
        omega
    have ht : r.take r.length = r := List.take_length
    refine ⟨arr_len I r _ _, lds_len I r _, fun j hjl => ?_, ?_⟩
    · have hx : isStop I (r.getD j default) = true := order_stop ho j hjl
      have hx2 := isStop_le hx
      have hl := hla j
      have hc := hb.sq.cell_in hl.1 hl.2 (b := r.getD j default) (by omega) (by omega)
      have hk := hlv j (by omega)
      have hd := hj j hjl
      have hm := imax_ge (stopAt I (r.getD j default)).s1 (lv I 0 (carAt I car).c1 (r.take j) + Mv.cell I (lastOf 0 (r.take j)) (r.getD j default))
      refine ⟨hx2.1, by omega, hl.1, hl.2, hk.1, hk.2, hb.sq.row _ (by omega), hc.1, hc.2, ?_, ?_, ?_, ?_, lds_get I r 0 j hjl, ld_take I r 0 j hjl, hd.2.1, hd.2.2, ?_, lastOf_take r 0 j hjl, legs_take I r 0 j hjl, (hlg j (by omega)).1, (hlg j (by omega)).2, (hld j (by omega)).1, (hld j (by omega)).2, hb.at hx⟩
      · rw [arr_get I r _ _ j hjl]; exact hm.1
      · rw [arr_get I r _ _ j hjl]; exact hd.1
      · rw [arr_get I r _ _ j hjl]; exact hm.2.1
      · rw [arr_get I r _ _ j hjl]; exact hm.2.2.symm
      · rw [arr_get I r _ _ j hjl, lv_take I r _ _ j hjl]; rfl
    · have hl := hla r.length
      have hk := hlv r.length (by omega)
      have hg := hlg r.length (by omega)
      rw [ht] at hl hk hg
      have hc := hb.sq.cell_in hl.1 hl.2 (b := 0) (by omega) (by omega)
      have e1 : cost I r = _ := costGo_legs hb.sq r 0 0 (by omega) (by omega) (by omega) (by omega) hv
      refine ⟨hl.1, hl.2, hk.1, hk.2, hb.sq.row _ (by omega), hc.1, hc.2, rfl, hh, ?_, rfl, hg.1, hg.2⟩
      show cost I r = _
      rw [e1]
      unfold Mv.cell
      omega
  · cases h
theorem bne_true {a b : Int} (h : (a != b) = true) : a ≠ b := by simpa using h
theorem bne_false {a b : Int} (h : (a != b) = false) : a = b := by simpa using h
end Go.Proofs.Ytpepcfombibpeaa.Mv
