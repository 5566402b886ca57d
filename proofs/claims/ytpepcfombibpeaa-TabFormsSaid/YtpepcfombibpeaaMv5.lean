/- Comparisons, sums, conversions are sound. -/
import Derived.Test.YtpepcfombibpeaaMv4
import Derived.Laws.StructEq
import Derived.Laws.Pointers
set_option linter.unusedVariables false
set_option linter.unusedSimpArgs false
namespace Go.Proofs.Ytpepcfombibpeaa.Mv

section
variable {P : Program} {w : World} {F : Nat → Prop} {ρ : Locs} {m : Mem}

theorem binI_sound {op : BinOp} {t : TypeId} {k : IntKind} {x y : Int} {v : LV} (h : binI op k x y = some v) (u u' : Operand) :
    ∃ val, (do eqGuard op t u u' (.int k x) (.int k y); binOp op t (.int k x) (.int k y) : Sem Value).run P w = .ok val w ∧ RelL w F ρ m val v := by
  unfold binI at h
  cases op <;> simp only [reduceCtorEq, Option.some.injEq] at h
  case add => subst h; exact ⟨_, by simp [eqGuard, binOp, Op.intArith], .mk_int _ _⟩
  case sub => subst h; exact ⟨_, by simp [eqGuard, binOp, Op.intArith], .mk_int _ _⟩
  case mul => subst h; exact ⟨_, by simp [eqGuard, binOp, Op.intArith], .mk_int _ _⟩
  case quo =>
    split at h
    · cases h
    · rename_i hy
      injection h with h
      subst h
      exact ⟨_, by simp [eqGuard, binOp, Op.intDiv, hy], .mk_int _ _⟩
  case rem =>
    split at h
    · cases h
    · rename_i hy
      injection h with h
      subst h
      exact ⟨_, by simp [eqGuard, binOp, Op.intDiv, hy], .mk_int _ _⟩
  case and => subst h; exact ⟨_, by simp only [eqGuard, binOp, Op.intBits]; simp, .mk_int _ _⟩
  case or => subst h; exact ⟨_, by simp only [eqGuard, binOp, Op.intBits]; simp, .mk_int _ _⟩
  case xor => subst h; exact ⟨_, by simp only [eqGuard, binOp, Op.intBits]; simp, .mk_int _ _⟩
  case andNot => subst h; exact ⟨_, by simp only [eqGuard, binOp, Op.intBits]; simp, .mk_int _ _⟩
  case eql => subst h; exact ⟨_, by simp [eqGuard, binOp, Op.intCmp], .mk_bool _⟩
  case neq => subst h; exact ⟨_, by simp [eqGuard, binOp, Op.intCmp], .mk_bool _⟩
  case lss => subst h; exact ⟨_, by simp [eqGuard, binOp, Op.intCmp], .mk_bool _⟩
  case leq => subst h; exact ⟨_, by simp [eqGuard, binOp, Op.intCmp], .mk_bool _⟩
  case gtr => subst h; exact ⟨_, by simp [eqGuard, binOp, Op.intCmp], .mk_bool _⟩
  case geq => subst h; exact ⟨_, by simp [eqGuard, binOp, Op.intCmp], .mk_bool _⟩

theorem eqT_sound {d : Nat} {t : TypeId} {x y : LV} {vx vy : Value} {b : Bool} (hx : RelL w F ρ m vx x) (hy : RelL w F ρ m vy y) (h : eqT P t x y = some b) : (Op.equalIn (d + 1) t vx vy).run P w = .ok b w := by
  unfold eqT at h
  split at h
  · rename_i hu
    split at h
    · rename_i hk
      injection h with h
      subst hk h
      rw [hx.int, hy.int]
      exact run_equalIn_int w d t _ _ _ _ hu
    · cases h
  · rename_i hu
    injection h with h
    subst h
    rw [hx.bool, hy.bool]
    exact run_equalIn_bool' w d t _ _ hu
  · rename_i hu
    injection h with h
    subst h
    rw [hx.str, hy.str]
    exact run_equalIn_string w d t _ _ hu
  · cases h
theorem eqT_one {t : TypeId} {x y : LV} {b : Bool} (h : eqT P t x y = some b) : isAggT P t = some false := by
  unfold eqT at h
  split at h <;> first | (rename_i hu; simp [isAggT, hu]; done) | cases h
theorem part_one {t : TypeId} {cs : Array Value} {i : Nat} {v : Value} (ht : isAggT P t = some false) (hv : cs[i]? = some v) : (part t cs i).run P w = .ok v w := by
  simp [part, isAgg_run ht, hv]
theorem eqFs_sound {d : Nat} {cx cy : Array Value} : ∀ {fs : List Field} {i : Nat} {xs ys : List LV} {b : Bool},
    (∀ (j : Nat) l, xs[j]? = some l → ∃ v, cx[i + j]? = some v ∧ RelL w F ρ m v l) → (∀ (j : Nat) l, ys[j]? = some l → ∃ v, cy[i + j]? = some v ∧ RelL w F ρ m v l) →
    eqFs P i fs xs ys = some b → (Op.eqFields (d + 1) cx cy fs).run P w = .ok b w := by
  intro fs
  induction fs with
  | nil =>
    intro i xs ys b hx hy h
    cases xs with
    | nil =>
      cases ys with
      | nil =>
        simp only [eqFs, Option.some.injEq] at h
        subst h
        rfl
      | cons => simp [eqFs] at h
    | cons => simp [eqFs] at h
  | cons f fs ih =>
    intro i xs ys b hx hy h
    cases xs with
    | nil => simp [eqFs] at h
    | cons x xs =>
      cases ys with
      | nil => simp [eqFs] at h
      | cons y ys =>
        simp only [eqFs] at h
        split at h
        · rename_i hf
          split at h
          · rename_i p q hp hq
            injection h with h
            subst h
            obtain ⟨vx, hvx, rx⟩ := hx 0 x rfl
            obtain ⟨vy, hvy, ry⟩ := hy 0 y rfl
            have h1 := part_one (P := P) (w := w) (eqT_one hp) (i := f.offset) (by rw [hf.1]; exact hvx)
            have h2 := part_one (P := P) (w := w) (eqT_one hp) (i := f.offset) (by rw [hf.1]; exact hvy)
            have h3 := eqT_sound (d := d) rx ry hp
            have h4 := ih (i := i + 1) (xs := xs) (ys := ys) (fun j l hl => by have := hx (j + 1) l hl; rwa [show i + (j + 1) = i + 1 + j by omega] at this)
              (fun j l hl => by have := hy (j + 1) l hl; rwa [show i + (j + 1) = i + 1 + j by omega] at this) hq
            simp only [Op.eqFields]
            rw [if_pos hf.2]
            simp only [Sem.run_bind, h1, h2, h3, Result.andThen_ok]
            cases p
            · simp
            · simpa using h4
          · cases h
        · cases h
theorem eqAgg_sound {d : Nat} {t : TypeId} {xs ys : List LV} {vx vy : Value} {b : Bool} (hx : RelL w F ρ m vx (.agg xs)) (hy : RelL w F ρ m vy (.agg ys)) (h : eqAgg P t xs ys = some b) :
    P.eqGuardType P.depth t = false ∧ ∃ cx cy, vx = .agg cx ∧ vy = .agg cy ∧ (Op.equalIn (d + 2) t (.agg cx) (.agg cy)).run P w = .ok b w := by
  unfold eqAgg at h
  split at h
  · rename_i fs hu
    split at h
    · rename_i hg
      obtain ⟨cx, rfl, hnx, hcx⟩ := hx.cells
      obtain ⟨cy, rfl, hny, hcy⟩ := hy.cells
      refine ⟨hg.1, cx, cy, rfl, rfl, ?_⟩
      have hfs : P.fieldsOf t = fs := by simp [Program.fieldsOf, hu]
      rw [run_equalIn_struct w (d + 1) t cx cy (by rw [hfs]; exact hu) hg.2, hfs]
      refine eqFs_sound (F := F) (ρ := ρ) (m := m) (i := 0) (fun j l hl => ?_) (fun j l hl => ?_) h
      · have hj := (List.getElem?_eq_some_iff.1 hl).1
        refine ⟨cx[j]'(by omega), ?_, ?_⟩
        · rw [Nat.zero_add]; exact Array.getElem?_eq_getElem _
        · exact hcx j _ l (Array.getElem?_eq_getElem _) hl
      · have hj := (List.getElem?_eq_some_iff.1 hl).1
        refine ⟨cy[j]'(by omega), ?_, ?_⟩
        · rw [Nat.zero_add]; exact Array.getElem?_eq_getElem _
        · exact hcy j _ l (Array.getElem?_eq_getElem _) hl
    · cases h
  · cases h

theorem isPtr_sound {v : Value} {l : LV} {b : Bool} (h : isPtr l = some b) (hr : RelL w F ρ m v l) : ∃ p, v = .pointer p ∧ p.isNone = !b := by
  unfold isPtr at h
  split at h
  · injection h with h; subst h; exact ⟨none, hr.nilp, rfl⟩
  · injection h with h
    subst h
    obtain ⟨blk, off, sz, val, rfl, -⟩ := hr.toFad
    exact ⟨_, rfl, rfl⟩
  · cases h

theorem binL_sound {op : BinOp} {t : TypeId} {x y v : LV} {vx vy : Value} (hx : RelL w F ρ m vx x) (hy : RelL w F ρ m vy y) (h : binL P op t x y = some v) (u u' : Operand) :
    ∃ val, (do eqGuard op t u u' vx vy; binOp op t vx vy : Sem Value).run P w = .ok val w ∧ RelL w F ρ m val v := by
  unfold binL at h
  split at h
  · -- whole numbers
    rw [hx.int, hy.int]
    split at h
    · split at h
      · cases h
      · rename_i hb
        injection h with h
        subst h
        exact ⟨_, by simp [eqGuard, binOp, Op.shift, hb], .mk_int _ _⟩
    · split at h
      · cases h
      · rename_i hb
        injection h with h
        subst h
        exact ⟨_, by simp [eqGuard, binOp, Op.shift, hb], .mk_int _ _⟩
    · split at h
      · rename_i hk
        subst hk
        exact binI_sound h u u'
      · cases h
  · -- texts
    rw [hx.str, hy.str]
    unfold binS at h
    split at h
    · split at h
      · rename_i hs
        injection h with h
        subst h
        refine ⟨_, ?_, .frz (.str _)⟩
        simp [eqGuard, binOp, Op.stringOp, IntKind.max, IntKind.signed, IntKind.bits]
        omega
      · cases h
    · injection h with h
      subst h
      exact ⟨_, by simp [eqGuard, binOp, Op.stringOp], .mk_bool _⟩
    · injection h with h
      subst h
      exact ⟨_, by simp [eqGuard, binOp, Op.stringOp], .mk_bool _⟩
    · cases h
  · -- truths
    rw [hx.bool, hy.bool]
    split at h
    · rename_i hu
      injection h with h
      subst h
      exact ⟨_, by simp [eqGuard, binOp, run_equal_bool w t _ _ hu], .mk_bool _⟩
    · rename_i hu
      injection h with h
      subst h
      exact ⟨_, by simp [eqGuard, binOp, run_equal_bool w t _ _ hu], .mk_bool _⟩
    · cases h
  · -- structs
    split at h
    · cases hb : eqAgg P t _ _ with
      | none => rw [hb] at h; cases h
      | some b =>
        rw [hb] at h
        simp only [Option.map_some, Option.some.injEq] at h
        subst h
        obtain ⟨hg, cx, cy, rfl, rfl, he⟩ := eqAgg_sound (d := 9998) hx hy hb
        refine ⟨.bool b, ?_, .mk_bool _⟩
        simp only [Sem.run_bind, run_eqGuard_agg w _ t u u' cx cy hg, Result.andThen_ok, run_eql_struct, he]
    · cases hb : eqAgg P t _ _ with
      | none => rw [hb] at h; cases h
      | some b =>
        rw [hb] at h
        simp only [Option.map_some, Option.some.injEq] at h
        subst h
        obtain ⟨hg, cx, cy, rfl, rfl, he⟩ := eqAgg_sound (d := 9998) hx hy hb
        refine ⟨.bool !b, ?_, .mk_bool _⟩
        simp only [Sem.run_bind, run_eqGuard_agg w _ t u u' cx cy hg, Result.andThen_ok, run_neq_struct, he]
    · cases h
  · -- a pointer against nil
    rw [hy.nilp]
    split at h
    · rename_i b hu hp
      injection h with h
      subst h
      obtain ⟨p, rfl, hn⟩ := isPtr_sound hp hx
      have hu' : P.underlying t = some (.pointer (P.pointee t)) := by rw [hu]; simp [Program.pointee, hu]
      refine ⟨_, ?_, .mk_bool _⟩
      rw [← hn]
      simp [eqGuard, run_eql_pointer_nil w t p hu']
    · rename_i b hu hp
      injection h with h
      subst h
      obtain ⟨p, rfl, hn⟩ := isPtr_sound hp hx
      have hu' : P.underlying t = some (.pointer (P.pointee t)) := by rw [hu]; simp [Program.pointee, hu]
      refine ⟨_, ?_, .mk_bool _⟩
      have : b = !p.isNone := by rw [hn]; simp
      rw [this]
      simp [eqGuard, run_neq_pointer_nil w t p hu']
    · cases h
  · cases h

theorem unL_sound {op : UnOp} {x v : LV} {vx : Value} (hx : RelL w F ρ m vx x) (h : unL op x = some v) : ∃ val, (Op.unary op vx).run P w = .ok val w ∧ RelL w F ρ m val v := by
  unfold unL at h
  split at h
  · injection h with h
    subst h
    rw [hx.int]
    exact ⟨_, by simp [Op.unary, Op.intArith], .mk_int _ _⟩
  · injection h with h
    subst h
    rw [hx.bool]
    exact ⟨_, by simp [Op.unary], .mk_bool _⟩
  · cases h
theorem convL_sound {s t : TypeId} {x v : LV} {vx : Value} (hx : RelL w F ρ m vx x) (hs : (P.underlying s).isSome = true) (h : convL P s t x = some v) :
    ∃ val, (convert s t vx).run P w = .ok val w ∧ RelL w F ρ m val v := by
  unfold convL at h
  split at h
  · rename_i hu
    injection h with h
    subst h
    rw [hx.int]
    cases hd : P.underlying s with
    | none => rw [hd] at hs; cases hs
    | some d => exact ⟨_, by simp [convert, run_underlying hu, run_underlying hd, Conv.intToInt], .mk_int _ _⟩
  · cases h
end
end Go.Proofs.Ytpepcfombibpeaa.Mv
