/- Slices of frozen slices; what may be handed on as it is. -/
import Derived.Test.YtpepcfombibpeaaMv21
set_option linter.unusedVariables false
set_option linter.unusedSimpArgs false
namespace Go.Proofs.Ytpepcfombibpeaa.Mv

theorem Frz.pures {m : Mem} : ∀ {cs : List LV}, cs.all pureL = true → Frz m (.agg cs) (.agg cs) []
  | [], _ => .aggn
  | c :: cs, h => by
    simp only [List.all_cons, Bool.and_eq_true] at h
    exact Frz.aggc (S := []) (T := []) (.pure h.1) (Frz.pures h.2)
/-- A slice of this call's own, as a whole. -/
theorem Frz.whole {m : Mem} {b g n : Nat} {cap : Option Nat} {x : Box} {es : List (List LV)} (hm : m b = Option.some x) (hg : x.gen = g) (hk : x.kind = .slc) (he : x.es = es) (hn : es.length = n) : Frz m (.own b g 0 n cap) (.sl es) [b] := by
  have := Frz.own (m := m) (b := b) (g := g) (off := 0) (len := n) (cap := cap) hm hg hk (by rw [he]; omega)
  rw [he, List.drop_zero, List.take_of_length_le (by omega)] at this
  exact this

section
variable {P : Program} {I : InlP} {nb : Nat} {ops : Array Oper} {K : St → Prop} {r : List Oper} {ts : Slots} {m : Mem} {t : Nat} {ty : TypeId} {pos : String} {af : Array Edge} {d : Bool} {i : Nat} {acc : List (Nat × List Nat × List Nat)}
theorem GL.sliceTo (hI : InlM I) {α : Type} {f : α → List LV} {l : List α} {st e : TypeId} {x y : Operand} {k : IntKind} {n : Int} {sz j : Nat} (ht : sliceE P st = some e) (hs : szT P e = some sz) (hx : evalO ts x = .sl (em f l)) (hy : evalO ts y = .int k n) (hz : ∀ e ∈ em f l, e.length = sz) (h0 : 0 ≤ n) (h1 : n ≤ (l.length : Int)) (hj : n.toNat = j)
    (kk : GL P I nb ops K d r (i + 1) ((i, [], []) :: acc) ⟨updS ts t (.sl (em f (l.take j))), m⟩) : GL P I nb ops K d (⟨some t, .slice st x none (some y) none, ty, pos, af, none⟩ :: r) i acc ⟨ts, m⟩ := by
  subst hj
  refine .stepP hI (.sliceF (l := 0) (h := n.toNat) hx ht hs hz rfl (by simp [bndL, hy, h0]) (Nat.zero_le _) (by rw [em_len]; omega)) ?_
  rw [em_slice, List.drop_zero, Nat.sub_zero]
  exact kk
theorem GL.sliceFrom (hI : InlM I) {α : Type} {f : α → List LV} {l : List α} {st e : TypeId} {x y : Operand} {k : IntKind} {n : Int} {sz j : Nat} (ht : sliceE P st = some e) (hs : szT P e = some sz) (hx : evalO ts x = .sl (em f l)) (hy : evalO ts y = .int k n) (hz : ∀ e ∈ em f l, e.length = sz) (h0 : 0 ≤ n) (h1 : n ≤ (l.length : Int)) (hj : n.toNat = j)
    (kk : GL P I nb ops K d r (i + 1) ((i, [], []) :: acc) ⟨updS ts t (.sl (em f (l.drop j))), m⟩) : GL P I nb ops K d (⟨some t, .slice st x (some y) none none, ty, pos, af, none⟩ :: r) i acc ⟨ts, m⟩ := by
  subst hj
  refine .stepP hI (.sliceF (l := n.toNat) (h := l.length) hx ht hs hz (by simp [bndL, hy, h0]) (by simp [bndL, em_len]) (by omega) (by rw [em_len]; omega)) ?_
  rw [em_slice, List.take_of_length_le (by simp)]
  exact kk
end

theorem Short.take {α : Type} {l : List α} (h : Short l) (k : Nat) : Short (l.take k) := by
  unfold Short at *
  simp
  omega
theorem Short.drop {α : Type} {l : List α} (h : Short l) (k : Nat) : Short (l.drop k) := by
  unfold Short at *
  simp
  omega
theorem index_lt : ∀ (l : List Int) (n : Int), index l n < (l.length : Int)
  | [], n => by simp [index]
  | x :: r, n => by
    have := index_lt r n
    simp only [index, List.length_cons]
    split
    · omega
    · split <;> omega
theorem index_ge : ∀ (l : List Int) (n : Int), -1 ≤ index l n
  | [], n => by simp [index]
  | x :: r, n => by
    have := index_ge r n
    simp only [index]
    split
    · omega
    · split <;> omega
theorem index_off : ∀ (l : List Int) (n : Int) (k : Nat), k ≤ l.length → (∀ j, j < k → n ≠ l.getD j default) → index l n = if index (l.drop k) n < 0 then -1 else index (l.drop k) n + (k : Int)
  | l, n, 0, _, _ => by
    have := index_ge l n
    simp only [List.drop_zero]
    split <;> omega
  | [], n, k + 1, hk, _ => by simp at hk
  | x :: r, n, k + 1, hk, h => by
    have h0 := h 0 (by omega)
    have hr := index_off r n k (by simpa using hk) fun j hj => by have := h (j + 1) (by omega); simpa using this
    simp only [index, List.drop_succ_cons]
    rw [if_neg (by simpa using h0), hr]
    have := index_ge (r.drop k) n
    split
    · simp
    · rw [if_neg (by omega)]
      omega

def has (l : List Int) (n : Int) : Bool := decide (index l n ≥ 0)
/-- One stop of a trip, in its order. -/
def chk (i : Inst) (l : List Int) (k : Nat) (x : Int) : Bool :=
  isStop i x && !has (l.take k) x && (decide (mate i.pairs x = 0) || (decide (¬ index l (mate i.pairs x) < 0) && (first i.pairs x == decide (index l (mate i.pairs x) > (k : Int)))))
def order (i : Inst) (l : List Int) : Bool := (List.range l.length).all fun k => chk i l k (l.getD k default)
theorem order_true {i : Inst} {l : List Int} (h : ∀ k, k < l.length → chk i l k (l.getD k default) = true) : order i l = true := by
  unfold order
  rw [List.all_eq_true]
  exact fun k hk => h k (List.mem_range.1 hk)
theorem order_false {i : Inst} {l : List Int} {k : Nat} (hk : k < l.length) (h : chk i l k (l.getD k default) = false) : order i l = false := by
  unfold order
  rw [List.all_eq_false]
  exact ⟨k, List.mem_range.2 hk, by simpa using h⟩

theorem isStop_nn {i : Inst} {n : Int} (h : isStop i n = true) : 0 ≤ n := by
  simp [isStop] at h
  omega
theorem isStop_le {i : Inst} {n : Int} (h : isStop i n = true) : 1 ≤ n ∧ n ≤ (i.stops.length : Int) := by
  simp [isStop] at h
  exact h

def costGo (i : Inst) : Int → Int → List Int → Int
  | at', s, [] => wadd s (way i at' 0)
  | at', s, x :: r => if isStop i x then costGo i x (wadd s (way i at' x)) r else 0
def cost (i : Inst) (l : List Int) : Int := costGo i 0 0 l
end Go.Proofs.Ytpepcfombibpeaa.Mv
