/- An instance with square travel; the cost of one stop more. -/
import Derived.Test.YtpepcfombibpeaaMv32
set_option linter.unusedVariables false
set_option linter.unusedSimpArgs false
namespace Go.Proofs.Ytpepcfombibpeaa.Mv

/-- What the laws need of the instance that they play with. -/
structure Sq (i : Inst) (N : Nat) : Prop where
  short : i.Short
  low : 2 ≤ N
  high : N ≤ 8
  cars0 : 1 ≤ i.cars.length
  cars1 : i.cars.length ≤ 3
  stops : i.stops.length = N
  travel : i.travel.length = N + 1
  row : ∀ a, a < N + 1 → (i.travel.getD a default).length = N + 1
  cell : ∀ a b, a < N + 1 → b < N + 1 → 0 ≤ (i.travel.getD a default).getD b default ∧ (i.travel.getD a default).getD b default ≤ 14
  diag : ∀ a, a < N + 1 → (i.travel.getD a default).getD a default = 0
theorem inst_sq (z : List Int) : Sq (instOf z) (nStops z) := by
  refine ⟨inst_short z, (nStops_le z).1, (nStops_le z).2, ?_, ?_, inst_stops z, inst_travel z, fun a ha => ?_, fun a b ha hb => ?_, fun a ha => ?_⟩
  · rw [inst_cars]; exact (nCars_le z).1
  · rw [inst_cars]; exact (nCars_le z).2
  · rw [inst_row z ha]; simp [wayRow]
  · rw [inst_cell z ha hb]; exact wayOf_in z a b
  · rw [inst_cell z ha ha]; simp [wayOf]
def cell (i : Inst) (a b : Int) : Int := (i.travel.getD a.toNat default).getD b.toNat default
theorem Sq.way {i : Inst} {N : Nat} (h : Sq i N) {a b : Int} (ha : 0 ≤ a) (ha2 : a ≤ N) (hb : 0 ≤ b) (hb2 : b ≤ N) : Mv.way i a b = Mv.cell i a b := by
  unfold Mv.way Mv.cell
  rw [if_neg (by rw [h.travel]; omega), if_neg (by rw [h.row _ (by omega)]; omega)]
theorem Sq.cell_in {i : Inst} {N : Nat} (h : Sq i N) {a b : Int} (ha : 0 ≤ a) (ha2 : a ≤ N) (hb : 0 ≤ b) (hb2 : b ≤ N) : 0 ≤ Mv.cell i a b ∧ Mv.cell i a b ≤ 14 :=
  h.cell _ _ (by omega) (by omega)

/-- The ways of a row, added up; and where it ends. -/
def legs (i : Inst) : Int → List Int → Int
  | _, [] => 0
  | p, x :: r => Mv.cell i p x + legs i x r
def lastOf : Int → List Int → Int
  | p, [] => p
  | _, x :: r => lastOf x r
theorem costGo_legs {i : Inst} {N : Nat} (h : Sq i N) : ∀ (l : List Int) (p s : Int), 0 ≤ p → p ≤ N → 0 ≤ s → s + 14 * l.length ≤ 1000000 → (∀ x ∈ l, isStop i x = true) →
    costGo i p s l = s + legs i p l + Mv.cell i (lastOf p l) 0
  | [], p, s, hp, hp2, hs, hb, _ => by
    have := h.cell_in hp hp2 (b := 0) (by omega) (by omega)
    simp only [costGo, legs, lastOf]
    rw [h.way hp hp2 (by omega) (by omega), wadd_small (by simp at hb; omega)]
    omega
  | x :: r, p, s, hp, hp2, hs, hb, hv => by
    have hx := hv x (by simp)
    have hx2 := isStop_le hx
    rw [h.stops] at hx2
    have hc := h.cell_in hp hp2 (b := x) (by omega) (by omega)
    simp only [List.length_cons] at hb
    simp only [costGo, legs, lastOf, hx, if_true]
    rw [h.way hp hp2 (by omega) (by omega), wadd_small (by omega), costGo_legs h r x _ (by omega) (by omega) (by omega) (by omega) fun y hy => hv y (by simp [hy])]
    omega
theorem legs_snoc (i : Inst) : ∀ (l : List Int) (p x : Int), legs i p (l ++ [x]) = legs i p l + Mv.cell i (lastOf p l) x
  | [], p, x => by simp [legs, lastOf]
  | y :: r, p, x => by
    simp only [List.cons_append, legs, lastOf, legs_snoc i r y x]
    omega
theorem lastOf_snoc : ∀ (l : List Int) (p x : Int), lastOf p (l ++ [x]) = x
  | [], _, _ => rfl
  | y :: r, _, x => lastOf_snoc r y x
theorem lastOf_get : ∀ (l : List Int) (p : Int), lastOf p l = if l.length = 0 then p else l.getD (l.length - 1) default
  | [], p => rfl
  | [y], p => rfl
  | y :: z :: r, p => by
    have := lastOf_get (z :: r) y
    simp only [lastOf] at this ⊢
    rw [this]
    simp
theorem legs_in {i : Inst} {N : Nat} (h : Sq i N) : ∀ (l : List Int) (p : Int), 0 ≤ p → p ≤ N → (∀ x ∈ l, isStop i x = true) → 0 ≤ legs i p l ∧ legs i p l ≤ 14 * l.length
  | [], p, _, _, _ => by simp [legs]
  | x :: r, p, hp, hp2, hv => by
    have hx2 := isStop_le (hv x (by simp))
    rw [h.stops] at hx2
    have hc := h.cell_in hp hp2 (b := x) (by omega) (by omega)
    have := legs_in h r x (by omega) (by omega) fun y hy => hv y (by simp [hy])
    simp only [legs, List.length_cons]
    omega
end Go.Proofs.Ytpepcfombibpeaa.Mv
