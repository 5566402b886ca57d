/- Operations that look and reckon are sound. -/
import Derived.Test.YtpepcfombibpeaaMv3
import Derived.Laws.Tables
import Derived.Great.BuildSlice
import Derived.Laws.MakeOwn
set_option linter.unusedVariables false
set_option linter.unusedSimpArgs false
namespace Go.Proofs.Ytpepcfombibpeaa.Mv

section
variable {w : World} {F : Nat → Prop} {ρ : Locs} {m : Mem}

theorem RelL.int {v : Value} {k : IntKind} {n : Int} (h : RelL w F ρ m v (.int k n)) : v = .int k n := by
  cases h with
  | frz h => cases h; rfl
theorem RelL.bool {v : Value} {b : Bool} (h : RelL w F ρ m v (.bool b)) : v = .bool b := by
  cases h with
  | frz h => cases h; rfl
theorem RelL.str {v : Value} {s : ByteArray} (h : RelL w F ρ m v (.str s)) : v = .string s := by
  cases h with
  | frz h => cases h; rfl
theorem RelL.nilp {v : Value} (h : RelL w F ρ m v .nilp) : v = .pointer none := by
  cases h with
  | frz h => cases h; rfl
theorem RelL.nils {v : Value} (h : RelL w F ρ m v .nils) : v = .slice none 0 0 := by
  cases h with
  | frz h => cases h; rfl
theorem RelL.skip {v : Value} (h : RelL w F ρ m v .skip) : v = Go.undef := by
  cases h with
  | frz h => cases h; rfl
theorem RelL.mk_int (k : IntKind) (n : Int) : RelL w F ρ m (.int k n) (.int k n) := .frz (.int k n)
theorem RelL.mk_bool (b : Bool) : RelL w F ρ m (.bool b) (.bool b) := .frz (.bool b)
theorem RelL.tupcells {v : Value} {ls : List LV} (h : RelL w F ρ m v (.tup ls)) :
    ∃ cs : Array Value, v = .tuple cs ∧ cs.size = ls.length ∧ ∀ (i : Nat) u l, cs[i]? = some u → ls[i]? = some l → RelL w F ρ m u l := by
  cases h with
  | frz h =>
    cases h with
    | tup hn h => exact ⟨_, rfl, hn, fun i u l hu hl => .frz (h i u l hu hl)⟩
  | tup hn h => exact ⟨_, rfl, hn, h⟩
theorem RelL.toOwn {v : Value} {b g off len : Nat} {cap : Option Nat} {x : Box} (h : RelL w F ρ m v (.own b g off len cap)) (hm : m b = some x) (hg : x.gen = g) : HdrOK (ρ b) x v off len cap := by
  cases h with
  | frz h => cases h
  | own _ hm' hg' h =>
    rw [hm] at hm'
    injection hm' with hm'
    subst hm'
    exact h hg
theorem RelL.toRef {v : Value} {b g i c : Nat} {x : Box} (h : RelL w F ρ m v (.ref b g i c)) (hm : m b = some x) (hg : x.gen = g) :
    x.kind ≠ .mp ∧ ∃ l, ρ b = some l ∧ v = .pointer (some ⟨l.blk, l.base + (i * x.sz + c), none⟩) := by
  cases h with
  | frz h => cases h
  | ref _ hm' hg' h =>
    rw [hm] at hm'
    injection hm' with hm'
    subst hm'
    exact h hg
theorem RelL.toMref {v : Value} {b g : Nat} {x : Box} (h : RelL w F ρ m v (.mref b g)) (hm : m b = some x) (hg : x.gen = g) :
    x.kind = .mp ∧ ∃ l, ρ b = some l ∧ v = .map (some l.blk) := by
  cases h with
  | frz h => cases h
  | mref _ hm' hg' h =>
    rw [hm] at hm'
    injection hm' with hm'
    subst hm'
    exact h hg
theorem RelL.toFad {v : Value} {es : List (List LV)} {i c : Nat} (h : RelL w F ρ m v (.fad es i c)) :
    ∃ blk off sz, ∃ val : Nat → Nat → Value, v = .pointer (some ⟨blk, off + (i * sz + c), none⟩) ∧ F blk ∧ (∀ e ∈ es, e.length = sz) ∧
      (∀ (i : Nat) e (c : Nat) l, es[i]? = some e → e[c]? = some l → w.cell? ⟨blk, off + (i * sz + c), none⟩ = some (val i c)) ∧
      ∀ (i : Nat) e (c : Nat) l, es[i]? = some e → e[c]? = some l → RelF w F (val i c) l := by
  cases h with
  | frz h =>
    cases h with
    | fad val h1 h2 h3 h4 => exact ⟨_, _, _, val, rfl, h1, h2, h3, h4⟩
theorem RelL.toSl {v : Value} {es : List (List LV)} (h : RelL w F ρ m v (.sl es)) :
    ∃ a len cap blk off sz, ∃ val : Nat → Nat → Value, v = .slice a len cap ∧ len = es.length ∧ len ≤ cap ∧ (0 < len → a = some ⟨blk, off, none⟩ ∧ F blk) ∧ (∀ e ∈ es, e.length = sz) ∧
      (∀ (i : Nat) e (c : Nat) l, es[i]? = some e → e[c]? = some l → w.cell? ⟨blk, off + (i * sz + c), none⟩ = some (val i c)) ∧
      ∀ (i : Nat) e (c : Nat) l, es[i]? = some e → e[c]? = some l → RelF w F (val i c) l := by
  cases h with
  | frz h =>
    cases h with
    | sl val h1 h2 h3 h4 h5 h6 => exact ⟨_, _, _, _, _, _, val, rfl, h1, h2, h3, h4, h5, h6⟩

theorem RelF.one {v : Value} {l : LV} (h : RelF w F v l) (ho : oneC l = true) : v.oneCell' = true := by
  cases h <;> first | rfl | (simp [oneC] at ho)
theorem RelL.one {v : Value} {l : LV} (h : RelL w F ρ m v l) (ho : oneC l = true) : v.oneCell' = true := by
  cases h with
  | frz h => exact h.one ho
  | own h1 => exact h1
  | ref h1 => exact h1
  | mref h1 => exact h1
  | agg => simp [oneC] at ho
  | tup => simp [oneC] at ho
  | fn => rfl
theorem cells_one {v : Value} (h : v.oneCell' = true) : v.cells = #[v] := by
  cases v <;> first | rfl | (simp [Value.oneCell'] at h)
/-- The cells of a value. -/
theorem RelL.cellsOf {v : Value} {l : LV} (h : RelL w F ρ m v l) (ho : (cellsL l).all oneC = true) :
    v.cells.size = (cellsL l).length ∧ ∀ (i : Nat) u q, v.cells[i]? = some u → (cellsL l)[i]? = some q → RelL w F ρ m u q ∧ u.oneCell' = true := by
  by_cases ha : ∃ cs, l = .agg cs
  · obtain ⟨cs, rfl⟩ := ha
    obtain ⟨vs, rfl, hn, hr⟩ := h.cells
    refine ⟨hn, fun i u q hu hq => ?_⟩
    have h1 := hr i u q hu hq
    refine ⟨h1, h1.one ?_⟩
    rw [List.all_eq_true] at ho
    exact ho q (List.mem_of_getElem? hq)
  · have hc : cellsL l = [l] := by
      cases l <;> first | rfl | exact absurd ⟨_, rfl⟩ ha
    rw [hc] at ho
    have hv := h.one (by simpa using ho)
    rw [cells_one hv, hc]
    refine ⟨rfl, fun i u q hu hq => ?_⟩
    have hi : i = 0 := by have := (List.getElem?_eq_some_iff.1 hq).1; simp at this; omega
    subst hi
    simp at hu hq
    subst hu hq
    exact ⟨h, hv⟩

theorem constC_rel (v : Value) : RelF w F v (constC v) := by
  unfold constC
  split <;> first | exact .int _ _ | exact .bool _ | exact .str _ | exact .nilp | exact .nils | exact .nilm | exact .undef _
theorem constL_rel (v : Value) : RelF w F v (constL v) := by
  unfold constL
  split
  · refine .agg (by simp) fun i v l hv hl => ?_
    rename_i cs
    rw [List.getElem?_map, Array.getElem?_toList, hv] at hl
    simp at hl
    subst hl
    exact constC_rel v
  · exact constC_rel _
end

section
variable {P : Program} {X : Ctx} {st : St} {a : Act} {w : World} {F : Nat → Prop} {ρ : Locs}

theorem Inv.eval (h : Inv X st a w F ρ) (x : Operand) : RelL w F ρ st.m (a.eval x) (evalO st.ts x) := by
  cases x with
  | tmp t => exact h.slots t
  | const v => exact .frz (constL_rel v)
  | global g => exact .frz (.undef _)
  | func f => exact .frz (.fn rfl (by simp))

theorem szT_some {t : TypeId} {n : Nat} (h : szT P t = some n) : ∃ i, P.info? t = some i ∧ i.size = n := by
  unfold szT at h
  cases hi : P.info? t with
  | none => simp [hi] at h
  | some i => exact ⟨i, rfl, by simpa [hi] using h⟩
theorem run_sizeT {t : TypeId} {n : Nat} (h : szT P t = some n) (w : World) : (sizeOf t).run P w = .ok n w := by
  obtain ⟨i, hi, hs⟩ := szT_some h
  simp [sizeOf, typeInfo, hi, hs]
theorem sliceE_some {t e : TypeId} (h : sliceE P t = some e) : P.underlying t = some (.slice e) := by
  unfold sliceE at h
  split at h
  · rename_i h'
    injection h with h
    rw [h', h]
  · cases h
theorem arrayE_some {t e : TypeId} {n : Nat} (h : arrayE P t = some (n, e)) : P.underlying t = some (.array n e) := by
  unfold arrayE at h
  split at h
  · rename_i h'
    injection h with h
    injection h with h1 h2
    rw [h', h1, h2]
  · cases h
theorem isAgg_run {t : TypeId} {b : Bool} (h : isAggT P t = some b) (w : World) : (isAgg t).run P w = .ok b w := by
  unfold isAggT at h
  cases hu : P.underlying t with
  | none => rw [hu] at h; cases h
  | some d =>
    rw [hu] at h
    cases d <;> simp at h <;> subst h <;> simp [isAgg, run_underlying hu]

/-- A variable of one cell is loaded. -/
theorem run_load1 {t : TypeId} {p : Addr} {v : Value} (ht : isAggT P t = some false) (hc : w.cell? p = some v) : (Instr.loadAt t (.pointer (some p))).run P w = .ok v w := by
  simp [Instr.loadAt, Instr.sureAddr, loadVar, isAgg_run ht, run_load, hc]
theorem run_loadA {t : TypeId} {p : Addr} {n : Nat} {cs : List Value} (ht : isAggT P t = some true) (hs : szT P t = some n) (hn : cs.length = n)
    (hc : ∀ j v, cs[j]? = some v → w.cell? (p.add j) = some v) : (Instr.loadAt t (.pointer (some p))).run P w = .ok (.agg cs.toArray) w := by
  subst hn
  simp [Instr.loadAt, Instr.sureAddr, loadVar, isAgg_run ht, run_sizeT hs, run_loadCells_list (P := P) w p cs hc]

theorem add_plain (b o n : Nat) : (⟨b, o, none⟩ : Addr).add n = ⟨b, o + n, none⟩ := by
  unfold Addr.add
  split <;> simp_all

/-- Cells that follow one another, as a list of values. -/
theorem cells_list {P : Nat → Value → Prop} {w : World} {blk o n : Nat} (h : ∀ j, j < n → ∃ v, w.cell? ⟨blk, o + j, none⟩ = some v ∧ P j v) :
    ∃ cs : List Value, cs.length = n ∧ ∀ j v, cs[j]? = some v → w.cell? ⟨blk, o + j, none⟩ = some v ∧ P j v := by
  induction n with
  | zero => exact ⟨[], rfl, by simp⟩
  | succ n ih =>
    obtain ⟨cs, h1, h2⟩ := ih fun j hj => h j (by omega)
    obtain ⟨v, hv, hp⟩ := h n (by omega)
    refine ⟨cs ++ [v], by simp [h1], fun j u hu => ?_⟩
    by_cases hj : j < n
    · rw [List.getElem?_append_left (by omega)] at hu
      exact h2 j u hu
    · rw [List.getElem?_append_right (by omega)] at hu
      have : j - cs.length = 0 := by
        have := (List.getElem?_eq_some_iff.1 hu).1
        simp at this
        omega
      rw [this] at hu
      simp at hu
      subst hu
      have : j = n := by omega
      subst this
      exact ⟨hv, hp⟩

/-- A box's cells, wherever they lie. -/
theorem Inv.boxCell (h : Inv X st a w F ρ) {b : Nat} {x : Box} {l : Loc} (hm : st.m b = some x) (hk : x.kind ≠ .mp) (hl : ρ b = some l) {i c : Nat} {e : List LV} {q : LV}
    (he : x.es[i]? = some e) (hq : e[c]? = some q) : ∃ v, w.cell? ⟨l.blk, l.base + (i * x.sz + c), none⟩ = some v ∧ CellR w F ρ st.m x.kind v q := by
  have hb := h.boxes b x hm
  unfold BoxOK at hb
  rw [hl] at hb
  have : CellsOK w F ρ st.m (some l) x := by
    cases hkk : x.kind with
    | var => rw [hkk] at hb; exact hb
    | slc => rw [hkk] at hb; exact hb
    | mp => exact absurd hkk hk
  obtain ⟨cs, t, h1, h2, h3, h4, h5⟩ := this
  obtain ⟨v, hv, hr⟩ := h5 i e c q he hq
  exact ⟨v, by simp only [World.cell?, h1]; exact hv, hr⟩

theorem aggOfCells {cs : List Value} {ls : List LV} {n c : Nat} (hn : cs.length = n) (hc : c + n ≤ ls.length) (h : ∀ j v, cs[j]? = some v → ∃ l, ls[c + j]? = some l ∧ RelL w F ρ st.m v l) :
    RelL w F ρ st.m (.agg cs.toArray) (.agg ((ls.drop c).take n)) := by
  refine .agg (by simp; omega) fun j v l hv hl => ?_
  have hv' : cs[j]? = some v := by simpa using hv
  obtain ⟨l', hl', hr⟩ := h j v hv'
  have hj : j < n := by have := (List.getElem?_eq_some_iff.1 hv').1; omega
  rw [List.getElem?_take, if_pos hj, List.getElem?_drop, hl'] at hl
  injection hl with hl
  subst hl
  exact hr
end
end Go.Proofs.Ytpepcfombibpeaa.Mv
