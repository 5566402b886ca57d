/- Lists of records as slices; the instances of the game. -/
import Derived.Test.YtpepcfombibpeaaMv19
set_option linter.unusedVariables false
set_option linter.unusedSimpArgs false
namespace Go.Proofs.Ytpepcfombibpeaa.Mv

def em {α : Type} (f : α → List LV) (l : List α) : List (List LV) := l.map f
theorem em_len {α : Type} (f : α → List LV) (l : List α) : (em f l).length = l.length := List.length_map ..
theorem em_get {α : Type} [Inhabited α] {f : α → List LV} {l : List α} {i : Nat} (h : i < l.length) : (em f l)[i]? = some (f (l.getD i default)) := by
  simp [em, List.getElem?_eq_getElem h]
theorem em_sz {α : Type} {f : α → List LV} {k : Nat} (h : ∀ a, (f a).length = k) (l : List α) : ∀ e ∈ em f l, e.length = k := by
  intro e he
  obtain ⟨n, -, rfl⟩ := List.mem_map.1 he
  exact h n
theorem em_one {α : Type} {f : α → List LV} (h : ∀ a, (f a).all oneC = true) (l : List α) : ∀ e ∈ em f l, e.all oneC = true := by
  intro e he
  obtain ⟨n, -, rfl⟩ := List.mem_map.1 he
  exact h n
theorem em_app {α : Type} (f : α → List LV) (l l' : List α) : (em f l).drop 0 ++ em f l' = em f (l ++ l') := by simp [em]
theorem em_snoc {α : Type} (f : α → List LV) (l : List α) (a : α) : (em f l).drop 0 ++ [f a] = em f (l ++ [a]) := by simp [em]
theorem em_take {α : Type} (f : α → List LV) (l : List α) : ((em f l).drop 0).take l.length = em f l := by
  rw [List.drop_zero, List.take_of_length_le (by rw [em_len]; exact Nat.le_refl _)]
theorem em_slice {α : Type} (f : α → List LV) (l : List α) (a b : Nat) : ((em f l).drop a).take b = em f ((l.drop a).take b) := by simp [em, List.map_take, List.map_drop]

/-- Numbers, as elements. -/
def ni (n : Int) : List LV := [.int .i64 n]
/-- Rows of numbers, as elements. -/
def nr (l : List Int) : List LV := [.sl (em ni l)]

structure Car where
  c0 : Int
  c1 : Int
  c2 : Int
  deriving Inhabited
structure Stop where
  s0 : Int
  s1 : Int
  s2 : Int
  s3 : Int
  deriving Inhabited
structure Two where
  p0 : Int
  p1 : Int
  deriving Inhabited
structure Inst where
  cars : List Car
  stops : List Stop
  pairs : List Two
  travel : List (List Int)
def nc (c : Car) : List LV := [.int .i64 c.c0, .int .i64 c.c1, .int .i64 c.c2]
def ns (s : Stop) : List LV := [.int .i64 s.s0, .int .i64 s.s1, .int .i64 s.s2, .int .i64 s.s3]
def np (p : Two) : List LV := [.int .i64 p.p0, .int .i64 p.p1]
def ic (i : Inst) : List LV := [.sl (em nc i.cars), .sl (em ns i.stops), .sl (em np i.pairs), .sl (em nr i.travel)]
def ei (i : Inst) : LV := .agg (ic i)

/-- Nothing so long that a count of it would not be an 'int'. -/
def Short {α : Type} (l : List α) : Prop := l.length < 1073741824
structure Inst.Short (i : Inst) : Prop where
  cars : Mv.Short i.cars
  stops : Mv.Short i.stops
  pairs : Mv.Short i.pairs
  travel : Mv.Short i.travel
  rows : ∀ r ∈ i.travel, Mv.Short r
theorem Inst.Short.row {i : Inst} (h : i.Short) (a : Nat) : (i.travel.getD a default).length < 1073741824 := by
  by_cases ha : a < i.travel.length
  · rw [List.getD_eq_getElem?_getD, List.getElem?_eq_getElem ha]
    exact h.rows _ (List.getElem_mem ha)
  · rw [List.getD_eq_getElem?_getD, List.getElem?_eq_none (by omega)]
    decide

/-- A sum, as an 'int'. -/
def wadd (a b : Int) : Int := IntKind.i64.wrap (a + b)

def isStop (i : Inst) (n : Int) : Bool := decide (1 ≤ n) && decide (n ≤ (i.stops.length : Int))
def way (i : Inst) (a b : Int) : Int :=
  if a ≥ (i.travel.length : Int) then 0
  else if b ≥ ((i.travel.getD a.toNat default).length : Int) then 0
  else (i.travel.getD a.toNat default).getD b.toNat default
def within (a n : Int) : Int := if n < 1 then 0 else a % n
theorem within_tmod (a n : Int) (h : ¬ n < 1) : within a n = if a.tmod n < 0 then a.tmod n + n else a.tmod n := by
  have hn : 0 < n := by omega
  have h1 := Int.emod_nonneg a (show n ≠ 0 by omega)
  have h2 := Int.emod_lt_of_pos a hn
  unfold within
  rw [if_neg h, Int.tmod_eq_emod]
  split
  · rename_i h3
    rw [if_neg (by simp at h3 ⊢; omega)]
    simp
  · rename_i h3
    have : (n.natAbs : Int) = n := by omega
    rw [if_pos (by omega)]
    omega
end Go.Proofs.Ytpepcfombibpeaa.Mv
