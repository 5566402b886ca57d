/- The reference's way to say that a route's order is right; a route on its way. -/
import Derived.Test.YtpepcfombibpeaaMv35
set_option linter.unusedVariables false
set_option linter.unusedSimpArgs false
namespace Go.Proofs.Ytpepcfombibpeaa.Mv

theorem index_mem : ∀ (l : List Int) (n : Int), 0 ≤ index l n ↔ n ∈ l
  | [], n => by simp [index]
  | x :: r, n => by
    have h := index_mem r n
    have h1 := index_ge r n
    have ei : index (x :: r) n = if n = x then 0 else if index r n < 0 then -1 else index r n + 1 := rfl
    rw [ei, List.mem_cons, ← h]
    by_cases e : n = x
    · simp [e]
    · rw [if_neg e]
      split <;> omega
theorem has_mem {l : List Int} {n : Int} : Mv.has l n = true ↔ n ∈ l := by
  unfold Mv.has
  rw [decide_eq_true_iff, ge_iff_le, index_mem]
theorem has_false {l : List Int} {n : Int} (h : Mv.has l n = false) : index l n < 0 := by
  unfold Mv.has at h
  simpa using h
theorem has_true {l : List Int} {n : Int} (h : Mv.has l n = true) : 0 ≤ index l n := by
  unfold Mv.has at h
  simpa using h
theorem index_get : ∀ {l : List Int} {n : Int}, 0 ≤ index l n → (index l n).toNat < l.length ∧ l.getD (index l n).toNat default = n
  | [], n, h => by simp [index] at h
  | x :: r, n, h => by
    have ei : index (x :: r) n = if n = x then 0 else if index r n < 0 then -1 else index r n + 1 := rfl
    rw [ei] at h ⊢
    by_cases e : n = x
    · simp [e]
    · rw [if_neg e] at h ⊢
      by_cases e2 : index r n < 0
      · rw [if_pos e2] at h; omega
      · rw [if_neg e2]
        have := index_get (l := r) (n := n) (by omega)
        have e3 : (index r n + 1).toNat = (index r n).toNat + 1 := by omega
        rw [e3]
        simpa using this
theorem index_at {l : List Int} {k : Nat} (hk : k < l.length) (h : Mv.has (l.take k) (l.getD k default) = false) : index l (l.getD k default) = k := by
  have hn : ¬ l.getD k default ∈ l.take k := fun hm => by rw [has_mem.2 hm] at h; cases h
  rw [index_off l _ k (by omega) fun j hj e => hn (by
    rw [e]
    have : j < (l.take k).length := by simp; omega
    have e2 : (l.take k)[j] = l.getD j default := by simp [List.getElem?_eq_getElem (show j < l.length by omega)]
    rw [← e2]
    exact List.getElem_mem this), drop_getD hk]
  simp [index]
theorem mate_mem : ∀ (ps : List Two) (n : Int), mate ps n ≠ 0 → ∃ p ∈ ps, (n = p.p0 ∧ mate ps n = p.p1) ∨ (n = p.p1 ∧ mate ps n = p.p0)
  | [], n, h => absurd rfl h
  | p :: r, n, h => by
    have em : mate (p :: r) n = if n = p.p0 then p.p1 else if n = p.p1 then p.p0 else mate r n := rfl
    rw [em] at h ⊢
    by_cases e0 : n = p.p0
    · exact ⟨p, by simp, .inl ⟨e0, if_pos e0⟩⟩
    · rw [if_neg e0] at h ⊢
      by_cases e1 : n = p.p1
      · exact ⟨p, by simp, .inr ⟨e1, if_pos e1⟩⟩
      · rw [if_neg e1] at h ⊢
        obtain ⟨q, hq, hh⟩ := mate_mem r n h
        exact ⟨q, by simp [hq], hh⟩
/-- The pairs stand apart. -/
def Sp (i : Inst) : Prop := ∀ p ∈ i.pairs, p.p0 ≠ 0 ∧ p.p1 ≠ 0 ∧ p.p0 ≠ p.p1 ∧ mate i.pairs p.p0 = p.p1 ∧ mate i.pairs p.p1 = p.p0 ∧ first i.pairs p.p0 = true ∧ first i.pairs p.p1 = false
/-- Is a pair as it must be on a route? -/
def POk (l : List Int) (p : Two) : Prop := Mv.has l p.p0 = Mv.has l p.p1 ∧ (Mv.has l p.p0 = true → index l p.p0 ≤ index l p.p1)
theorem chk_iff {i : Inst} {l : List Int} {k : Nat} {x : Int} : chk i l k x = true ↔ isStop i x = true ∧ Mv.has (l.take k) x = false ∧ (mate i.pairs x = 0 ∨ (0 ≤ index l (mate i.pairs x) ∧ (first i.pairs x = true ↔ index l (mate i.pairs x) > (k : Int)))) := by
  unfold chk
  simp only [Bool.and_eq_true, Bool.or_eq_true, Bool.not_eq_true', decide_eq_true_iff, beq_iff_eq, Int.not_lt, and_assoc]
  constructor
  · rintro ⟨h1, h2, h3⟩
    refine ⟨h1, h2, h3.imp id fun h => ⟨h.1, ?_⟩⟩
    rw [h.2, decide_eq_true_iff]
  · rintro ⟨h1, h2, h3⟩
    refine ⟨h1, h2, h3.imp id fun h => ⟨h.1, ?_⟩⟩
    rw [Bool.eq_iff_iff, decide_eq_true_iff]
    exact h.2
theorem order_pairs {i : Inst} (hp : Sp i) {l : List Int} (hv : ∀ k, k < l.length → isStop i (l.getD k default) = true) (hd : ∀ k, k < l.length → Mv.has (l.take k) (l.getD k default) = false) (h : ∀ p ∈ i.pairs, POk l p) : order i l = true := by
  refine order_true fun k hk => chk_iff.2 ⟨hv k hk, hd k hk, ?_⟩
  by_cases hm : mate i.pairs (l.getD k default) = 0
  · exact .inl hm
  · refine .inr ?_
    have hik := index_at hk (hd k hk)
    have hhas : Mv.has l (l.getD k default) = true := by unfold Mv.has; rw [hik]; simp
    obtain ⟨p, hpm, hc⟩ := mate_mem _ _ hm
    obtain ⟨p1, p2, p3, p4, p5, p6, p7⟩ := hp p hpm
    obtain ⟨q1, q2⟩ := h p hpm
    rcases hc with ⟨e1, e2⟩ | ⟨e1, e2⟩
    · rw [e1] at hik hhas ⊢
      rw [p4, p6]
      have h1 := has_true (q1 ▸ hhas)
      have h2 := q2 hhas
      have h3 := index_get h1
      have h4 := index_get (has_true hhas)
      refine ⟨h1, fun _ => ?_, fun _ => rfl⟩
      rcases Int.lt_or_eq_of_le h2 with h2 | h2
      · omega
      · rw [← h2, h4.2] at h3
        exact absurd h3.2 p3
    · rw [e1] at hik hhas ⊢
      rw [p5, p7]
      have h1 := has_true (q1.trans hhas)
      have h2 := q2 (q1.trans hhas)
      exact ⟨h1, ⟨fun hh => Bool.noConfusion hh, fun hh => by omega⟩⟩
theorem order_bad {i : Inst} {l : List Int} {k : Nat} (hk : k < l.length) (h : isStop i (l.getD k default) = false ∨ Mv.has (l.take k) (l.getD k default) = true) : order i l = false := by
  refine order_false hk ?_
  rw [← Bool.not_eq_true, chk_iff]
  rintro ⟨h1, h2, -⟩
  rcases h with h | h
  · rw [h] at h1; cases h1
  · rw [h] at h2; cases h2
theorem order_at {i : Inst} {l : List Int} (h : order i l = true) {x : Int} (hx : Mv.has l x = true) : mate i.pairs x = 0 ∨ (0 ≤ index l (mate i.pairs x) ∧ (first i.pairs x = true ↔ index l (mate i.pairs x) > index l x)) := by
  have h1 := index_get (has_true hx)
  have h0 := has_true hx
  unfold order at h
  rw [List.all_eq_true] at h
  have := chk_iff.1 (h (index l x).toNat (List.mem_range.2 h1.1))
  rw [h1.2] at this
  have e : (((index l x).toNat : Nat) : Int) = index l x := by omega
  rw [e] at this
  exact this.2.2
theorem order_pok {i : Inst} (hp : Sp i) {l : List Int} (h : order i l = true) {p : Two} (hm : p ∈ i.pairs) : POk l p := by
  obtain ⟨p1, p2, p3, p4, p5, p6, p7⟩ := hp p hm
  by_cases h0 : Mv.has l p.p0 = true
  · rcases order_at h h0 with h1 | h1
    · rw [p4] at h1; exact absurd h1 p2
    · rw [p4, p6] at h1
      have h2 := h1.2.1 rfl
      refine ⟨?_, fun _ => by omega⟩
      rw [h0]
      unfold Mv.has
      simpa using h1.1
  · refine ⟨?_, fun hh => absurd hh h0⟩
    by_cases h1 : Mv.has l p.p1 = true
    · rcases order_at h h1 with h2 | h2
      · rw [p5] at h2; exact absurd h2 p1
      · rw [p5] at h2
        refine absurd ?_ h0
        unfold Mv.has
        simpa using h2.1
    · rw [Bool.not_eq_true] at h0 h1
      rw [h0, h1]
theorem order_bad_pair {i : Inst} (hp : Sp i) {l : List Int} {p : Two} (hm : p ∈ i.pairs) (h : ¬ POk l p) : order i l = false := by
  rw [← Bool.not_eq_true]
  exact fun ho => h (order_pok hp ho hm)
theorem look_has {c : Int} {l : List Int} {n : Int} (h : Mv.has l n = true) : look c l n = c + index l n := by
  have := has_true h
  unfold look
  rw [if_neg (by omega)]
theorem pok_none {l : List Int} {p : Two} (h : (!(Mv.has l p.p0 == Mv.has l p.p1)) = false) (h0 : Mv.has l p.p0 = false) : POk l p := ⟨by simpa using h, fun hh => by rw [h0] at hh; cases hh⟩
theorem pok_both {l : List Int} {p : Two} (h : (!(Mv.has l p.p0 == Mv.has l p.p1)) = false) (h0 : Mv.has l p.p0 = true) (h1 : ¬ look 0 l p.p0 > look 0 l p.p1) : POk l p := by
  have e : Mv.has l p.p0 = Mv.has l p.p1 := by simpa using h
  rw [look_has h0, look_has (e ▸ h0)] at h1
  exact ⟨e, fun _ => by omega⟩
theorem pok_not1 {l : List Int} {p : Two} (h : (!(Mv.has l p.p0 == Mv.has l p.p1)) = true) : ¬ POk l p := fun hp => by rw [hp.1] at h; simp at h
theorem pok_not2 {l : List Int} {p : Two} (h : (!(Mv.has l p.p0 == Mv.has l p.p1)) = false) (h0 : Mv.has l p.p0 = true) (h1 : look 0 l p.p0 > look 0 l p.p1) : ¬ POk l p := fun hp => by
  have e : Mv.has l p.p0 = Mv.has l p.p1 := by simpa using h
  rw [look_has h0, look_has (e ▸ h0)] at h1
  have := hp.2 h0
  omega
theorem pairs_mem {i : Inst} {k : Nat} (h : k < i.pairs.length) : i.pairs.getD k default ∈ i.pairs := by
  rw [List.getD_eq_getElem?_getD, List.getElem?_eq_getElem h]
  exact List.getElem_mem h
theorem pairs_all {i : Inst} {Q : Two → Prop} (h : ∀ k, k < i.pairs.length → Q (i.pairs.getD k default)) : ∀ p ∈ i.pairs, Q p := fun p hp => by
  obtain ⟨k, hk, rfl⟩ := List.getElem_of_mem hp
  have := h k hk
  rwa [List.getD_eq_getElem?_getD, List.getElem?_eq_getElem hk] at this
theorem inst_sp (z : List Int) : Sp (instOf z) := by
  have h := nPairs_le z
  have e : (instOf z).pairs = pairsK z (nPairs z) := rfl
  have e0 : pairOf z 0 = ⟨2, 1⟩ ∨ pairOf z 0 = ⟨1, 2⟩ := by unfold pairOf; split <;> simp
  have e1 : pairOf z 1 = ⟨4, 3⟩ ∨ pairOf z 1 = ⟨3, 4⟩ := by unfold pairOf; split <;> simp
  unfold Sp
  rw [e]
  generalize nPairs z = n at h
  match n, h with
  | 0, _ => intro p hp; simp [pairsK] at hp
  | 1, _ =>
    have e2 : pairsK z 1 = [pairOf z 0] := rfl
    rw [e2]
    rcases e0 with e0 | e0 <;> rw [e0] <;> decide
  | 2, _ =>
    have e2 : pairsK z 2 = [pairOf z 0, pairOf z 1] := rfl
    rw [e2]
    rcases e0 with e0 | e0 <;> rcases e1 with e1 | e1 <;> rw [e0, e1] <;> decide
  | n + 3, h => omega
theorem take_snoc {α : Type} [Inhabited α] {l : List α} {k : Nat} (h : k < l.length) : l.take k ++ [l.getD k default] = l.take (k + 1) := by
  rw [List.take_add_one, List.getElem?_eq_getElem h]
  simp [List.getElem?_eq_getElem h]

/-! ### On the way -/
/-- The stop at place j can be begun, and what is loaded then may be. -/
def Fin1 (i : Inst) (c : Car) (l : List Int) (j : Nat) : Prop :=
  Mv.begun i (lastOf 0 (l.take j)) (lv i 0 c.c1 (l.take j)) (l.getD j default) ≤ (stopAt i (l.getD j default)).s2 ∧ 0 ≤ ld i 0 (l.take (j + 1)) ∧ ld i 0 (l.take (j + 1)) ≤ c.c0
structure Onway (i : Inst) (N : Nat) (c : Car) (l : List Int) (k : Nat) : Prop where
  l0 : 0 ≤ lastOf 0 (l.take k)
  l1 : lastOf 0 (l.take k) ≤ N
  v0 : 0 ≤ lv i 0 c.c1 (l.take k)
  v1 : lv i 0 c.c1 (l.take k) ≤ 3000
  d0 : 0 ≤ ld i 0 (l.take k)
  d1 : ld i 0 (l.take k) ≤ 1000
  g0 : 0 ≤ legs i 0 (l.take k)
  g1 : legs i 0 (l.take k) ≤ 100000
  row : (i.travel.getD (lastOf 0 (l.take k)).toNat default).length = N + 1
theorem run_at {i : Inst} {N : Nat} (hb : Sb i N) {c : Car} (hc : c.c0 ≤ 1000 ∧ 0 ≤ c.c1 ∧ c.c1 ≤ 1000) {l : List Int} (hl : l.length ≤ 1000) (hv : ∀ j, j < l.length → isStop i (l.getD j default) = true) {k : Nat} (hk : k ≤ l.length) (h : ∀ j, j < k → Fin1 i c l j) : Onway i N c l k := by
  have hst := hb.sq.stops
  have hvt : ∀ x ∈ l.take k, isStop i x = true := fun x hx => by
    obtain ⟨j, hj, rfl⟩ := List.getElem_of_mem (List.mem_of_mem_take hx)
    have := hv j hj
    rwa [List.getD_eq_getElem?_getD, List.getElem?_eq_getElem hj] at this
  have h1 := lastOf_in (l.take k) 0 hvt (by omega) (by omega)
  have h2 := lv_in hb (l.take k) 0 c.c1 hvt (by omega) (by omega) (by omega) (by omega) fun q hq => by
    have hq2 : q < k ∧ q < l.length := by simp at hq; omega
    have := (h q hq2.1).1
    rw [List.take_take, show min q k = q by omega]
    have e : (l.take k).getD q default = l.getD q default := by simp [List.getElem?_take, hq2.1]
    rw [e]
    exact this
  have h3 := legs_in hb.sq (l.take k) 0 (by omega) (by omega) hvt
  have h4 : 0 ≤ ld i 0 (l.take k) ∧ ld i 0 (l.take k) ≤ 1000 := by
    cases k with
    | zero => simp [ld]
    | succ k =>
      have := (h k (by omega)).2
      omega
  have h5 : (l.take k).length ≤ 1000 := by simp; omega
  exact ⟨h1.1, by omega, h2.1, h2.2, h4.1, h4.2, h3.1, by omega, hb.sq.row _ (by omega)⟩
theorem arr_snoc (i : Inst) : ∀ (l : List Int) (p k x : Int), arr i p k (l ++ [x]) = arr i p k l ++ [Mv.begun i (lastOf p l) (lv i p k l) x]
  | [], _, _, _ => rfl
  | y :: r, p, k, x => by simp [arr, lastOf, lv, arr_snoc i r]
theorem lds_snoc (i : Inst) : ∀ (l : List Int) (o x : Int), lds i o (l ++ [x]) = lds i o l ++ [ld i o l + (stopAt i x).s0]
  | [], _, _ => rfl
  | y :: r, o, x => by simp [lds, ld, lds_snoc i r]
theorem imax_comm (x y : Int) : imax x y = imax y x := by
  unfold imax
  split <;> split <;> omega
/-- A route that was driven to its end. -/
theorem eval_win {i : Inst} {N : Nat} (hb : Sb i N) {car : Int} (h0 : 0 ≤ car) (h1 : car < i.cars.length) {l : List Int} (hl : l.length ≤ 1000) (ho : order i l = true) (h : ∀ j, j < l.length → Fin1 i (carAt i car) l j) (he : ¬ lv i 0 (carAt i car).c1 l + (i.travel.getD (lastOf 0 l).toNat default).getD (Int.toNat 0) default > (carAt i car).c2) :
    eval i car l = some ⟨arr i 0 (carAt i car).c1 l, lds i 0 l, legs i 0 l + (i.travel.getD (lastOf 0 l).toNat default).getD (Int.toNat 0) default, lv i 0 (carAt i car).c1 l + (i.travel.getD (lastOf 0 l).toNat default).getD (Int.toNat 0) default⟩ := by
  have hf : fine i (carAt i car) 0 (carAt i car).c1 0 l = true := fine_of i _ l 0 _ 0 h (by unfold Mv.cell; omega)
  rw [eval_eq hb h0 h1, if_pos ⟨ho, hf⟩]
  have e1 : cost i l = _ := costGo_legs hb.sq l 0 0 (by omega) (by omega) (by omega) (by omega) (order_all ho)
  rw [e1, Int.zero_add]
  rfl
theorem eval_lose {i : Inst} {N : Nat} (hb : Sb i N) {car : Int} (h0 : 0 ≤ car) (h1 : car < i.cars.length) {l : List Int} (h : (∃ j, j < l.length ∧ ¬ Fin1 i (carAt i car) l j) ∨ lv i 0 (carAt i car).c1 l + (i.travel.getD (lastOf 0 l).toNat default).getD (Int.toNat 0) default > (carAt i car).c2) : eval i car l = none := by
  rw [eval_eq hb h0 h1, if_neg]
  rintro ⟨-, hf⟩
  obtain ⟨ha, he⟩ := fine_all i _ l 0 _ 0 hf
  rcases h with ⟨j, hj, hn⟩ | h
  · exact hn (ha j hj)
  · unfold Mv.cell at he
    omega
end Go.Proofs.Ytpepcfombibpeaa.Mv
