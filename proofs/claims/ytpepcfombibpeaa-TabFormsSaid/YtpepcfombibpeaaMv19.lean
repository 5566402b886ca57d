/- Arithmetic in range, slices of integers, and flags. -/
import Derived.Test.YtpepcfombibpeaaMv18
import Derived.IntWalk
set_option linter.unusedVariables false
set_option linter.unusedSimpArgs false
namespace Go.Proofs.Ytpepcfombibpeaa.Mv
open Go.IntWalk

/-- What an 'int' holds. -/
def In (n : Int) : Prop := -9223372036854775808 ≤ n ∧ n ≤ 9223372036854775807

section
variable {P : Program} {I : InlP} {nb : Nat} {ops : Array Oper} {K : St → Prop} {r : List Oper} {ts : Slots} {m : Mem} {t : Nat} {ty : TypeId} {pos : String} {af : Array Edge} {d : Bool} {i : Nat} {acc : List (Nat × List Nat × List Nat)}

theorem GL.addR (hI : InlM I) {xt yt : TypeId} {x y : Operand} {a b : Int} (hx : evalO ts x = .int .i64 a) (hy : evalO ts y = .int .i64 b) (h : -9223372036854775808 ≤ a + b ∧ a + b ≤ 9223372036854775807) (k : GL P I nb ops K d r (i + 1) ((i, [], []) :: acc) ⟨updS ts t (.int .i64 (a + b)), m⟩) :
    GL P I nb ops K d (⟨some t, .binOp .add xt x y yt, ty, pos, af, none⟩ :: r) i acc ⟨ts, m⟩ := .bin hI (v := .int .i64 (a + b)) (by simp [hx, hy, binL, binI, i64_in _ h]) k
theorem GL.subR (hI : InlM I) {xt yt : TypeId} {x y : Operand} {a b : Int} (hx : evalO ts x = .int .i64 a) (hy : evalO ts y = .int .i64 b) (h : -9223372036854775808 ≤ a - b ∧ a - b ≤ 9223372036854775807) (k : GL P I nb ops K d r (i + 1) ((i, [], []) :: acc) ⟨updS ts t (.int .i64 (a - b)), m⟩) :
    GL P I nb ops K d (⟨some t, .binOp .sub xt x y yt, ty, pos, af, none⟩ :: r) i acc ⟨ts, m⟩ := .bin hI (v := .int .i64 (a - b)) (by simp [hx, hy, binL, binI, i64_in _ h]) k
theorem GL.mulR (hI : InlM I) {xt yt : TypeId} {x y : Operand} {a b : Int} (hx : evalO ts x = .int .i64 a) (hy : evalO ts y = .int .i64 b) (h : -9223372036854775808 ≤ a * b ∧ a * b ≤ 9223372036854775807) (k : GL P I nb ops K d r (i + 1) ((i, [], []) :: acc) ⟨updS ts t (.int .i64 (a * b)), m⟩) :
    GL P I nb ops K d (⟨some t, .binOp .mul xt x y yt, ty, pos, af, none⟩ :: r) i acc ⟨ts, m⟩ := .bin hI (v := .int .i64 (a * b)) (by simp [hx, hy, binL, binI, i64_in _ h]) k
theorem GL.remR (hI : InlM I) {xt yt : TypeId} {x y : Operand} {a b : Int} (hx : evalO ts x = .int .i64 a) (hy : evalO ts y = .int .i64 b) (h : b ≠ 0) (k : GL P I nb ops K d r (i + 1) ((i, [], []) :: acc) ⟨updS ts t (.int .i64 (a.tmod b)), m⟩) :
    GL P I nb ops K d (⟨some t, .binOp .rem xt x y yt, ty, pos, af, none⟩ :: r) i acc ⟨ts, m⟩ := .bin hI (v := .int .i64 (a.tmod b)) (by simp [hx, hy, binL, binI, h]) k
theorem GL.quoR (hI : InlM I) {xt yt : TypeId} {x y : Operand} {a b : Int} (hx : evalO ts x = .int .i64 a) (hy : evalO ts y = .int .i64 b) (h : -9223372036854775808 ≤ a ∧ a ≤ 9223372036854775807 ∧ 1 ≤ b) (k : GL P I nb ops K d r (i + 1) ((i, [], []) :: acc) ⟨updS ts t (.int .i64 (a.tdiv b)), m⟩) :
    GL P I nb ops K d (⟨some t, .binOp .quo xt x y yt, ty, pos, af, none⟩ :: r) i acc ⟨ts, m⟩ := by
  have hb : b ≠ 0 := by omega
  exact .bin hI (v := .int .i64 (a.tdiv b)) (by simp [hx, hy, binL, binI, i64_quo' a b h, hb]) k
theorem GL.splitAt {z : Bool} {l : List Oper} (j : Nat) (hj : ts j = .bool z) (h1 : z = true → GL P I nb ops K d l i acc ⟨ts, m⟩) (h2 : z = false → GL P I nb ops K d l i acc ⟨ts, m⟩) : GL P I nb ops K d l i acc ⟨ts, m⟩ := by
  cases hz : z
  · exact h2 hz
  · exact h1 hz
end

/-! ### Slices of integers -/
def iv (n : Int) : LV := .int .i64 n
def ie (l : List Int) : List (List LV) := l.map fun n => [.int .i64 n]
theorem ie_len (l : List Int) : (ie l).length = l.length := List.length_map ..
theorem ie_get {l : List Int} {i : Nat} (h : i < l.length) : (ie l)[i]? = some [.int .i64 (l.getD i 0)] := by
  simp [ie, List.getElem?_eq_getElem h]
theorem ie_sz (l : List Int) : ∀ e ∈ ie l, e.length = 1 := by
  intro e he
  obtain ⟨n, -, rfl⟩ := List.mem_map.1 he
  rfl
theorem ie_one (l : List Int) : ∀ e ∈ ie l, e.all oneC = true := by
  intro e he
  obtain ⟨n, -, rfl⟩ := List.mem_map.1 he
  rfl
theorem ie_app (l l' : List Int) : (ie l).drop 0 ++ ie l' = ie (l ++ l') := by simp [ie]
theorem ie_take (l : List Int) : ((ie l).drop 0).take l.length = ie l := by
  rw [List.drop_zero, List.take_of_length_le (by rw [ie_len]; exact Nat.le_refl _)]
theorem ie_snoc (l : List Int) (n : Int) : ie l ++ [[.int .i64 n]] = ie (l ++ [n]) := by simp [ie]
end Go.Proofs.Ytpepcfombibpeaa.Mv
