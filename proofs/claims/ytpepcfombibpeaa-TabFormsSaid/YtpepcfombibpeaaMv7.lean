/- Slice literals, loads and stores are sound. -/
import Derived.Test.YtpepcfombibpeaaMv6
set_option linter.unusedVariables false
set_option linter.unusedSimpArgs false
namespace Go.Proofs.Ytpepcfombibpeaa.Mv

theorem pureL_one {l : LV} (h : pureL l = true) : oneC l = true := by
  cases l <;> first | rfl | (simp [pureL] at h)
theorem Frz.one1 {m : Mem} {l l' : LV} {T : List Nat} (h : Frz m l l' T) (ho : oneC l' = true) : oneC l = true := by
  cases h <;> first | exact ho | rfl | (simp [oneC] at ho)
theorem Frz.all {m : Mem} {l l' : LV} {T : List Nat} (h : Frz m l l' T) : ∀ cs cs', l = .agg cs → l' = .agg cs' → cs'.all oneC = true → cs.all oneC = true := by
  induction h with
  | aggn => intro cs cs' h1 h2 h3; cases h1; rfl
  | aggc h hs ih1 ih2 =>
    intro cs cs' h1 h2 h3
    injection h1 with h1
    injection h2 with h2
    subst h1 h2
    simp only [List.all_cons, Bool.and_eq_true] at h3 ⊢
    exact ⟨h.one1 h3.1, ih2 _ _ rfl rfl h3.2⟩
  | pure hp => intro cs cs' h1 h2; subst h1; simp [pureL] at hp
  | nils => intro cs cs' h1; cases h1
  | nilm => intro cs cs' h1; cases h1
  | own => intro cs cs' h1; cases h1
  | mref => intro cs cs' h1; cases h1
  | ref => intro cs cs' h1; cases h1
  | fn => intro cs cs' h1; cases h1

section
variable {P : Program} {X : Ctx} {st : St} {a : Act} {w : World} {F : Nat → Prop} {ρ : Locs}

/-- What is frozen, cell by cell. -/
theorem frz_cells (h : Inv X st a w F ρ) {v : Value} {l : LV} (hv : RelL w F ρ st.m v l) {cs : List LV} {T : List Nat} (hf : Frz st.m (.agg (cellsL l)) (.agg cs) T) (h1 : cs.all oneC = true) :
    v.cells.size = cs.length ∧ ∀ (i : Nat) u q, v.cells[i]? = some u → cs[i]? = some q → RelF w (FT F ρ T) u q ∧ u.oneCell' = true := by
  obtain ⟨hn, hr⟩ := hv.cellsOf (hf.all _ _ rfl rfl h1)
  obtain ⟨cs', h2, h3⟩ := hf.len _ rfl
  injection h2 with h2
  subst h2
  obtain ⟨cs2, h4, h5, h6⟩ := (Frz.sound h.boxes hf (.agg v.cells) (.agg hn fun i u q hu hq => (hr i u q hu hq).1)).cells
  injection h4 with h4
  subst h4
  refine ⟨h5, fun i u q hu hq => ⟨h6 i u q hu hq, ?_⟩⟩
  have hi : i < (cellsL l).length := by rw [← hn]; exact (Array.getElem?_eq_some_iff.1 hu).1
  exact (hr i u _ hu (List.getElem?_eq_getElem hi)).2

/-- Elements laid one after the other. -/
def ERel (w : World) (F : Nat → Prop) (cs : Array Value) (sz : Nat) (es : List (List LV)) : Prop :=
  cs.size = es.length * sz ∧ (∀ e ∈ es, e.length = sz) ∧ ∀ (i : Nat) e (c : Nat) q, es[i]? = some e → e[c]? = some q → ∃ v, cs[i * sz + c]? = some v ∧ RelF w F v q

theorem at_inj {sz i c i' c' : Nat} (h : i * sz + c = i' * sz + c') (hc : c < sz) (hc' : c' < sz) : i = i' ∧ c = c' := by
  have hi : i = i' := by
    rcases Nat.lt_trichotomy i i' with h1 | h1 | h1
    · have : (i + 1) * sz ≤ i' * sz := Nat.mul_le_mul_right _ h1
      rw [Nat.add_mul] at this
      omega
    · exact h1
    · have : (i' + 1) * sz ≤ i * sz := Nat.mul_le_mul_right _ h1
      rw [Nat.add_mul] at this
      omega
  subst hi
  exact ⟨rfl, by omega⟩
theorem at_fit {sz i n : Nat} (h : i < n) : i * sz + sz ≤ n * sz := by
  have : (i + 1) * sz ≤ n * sz := Nat.mul_le_mul_right _ h
  rwa [Nat.add_mul, Nat.one_mul] at this
theorem at_out {sz i c i' c' : Nat} (hc : c < sz) (hne : i ≠ i') : i' * sz + c' < i' * sz ∨ i * sz + c < i' * sz ∨ i' * sz + sz ≤ i * sz + c := by
  rcases Nat.lt_or_gt_of_ne hne with h1 | h1
  · have := at_fit (sz := sz) h1
    omega
  · have := at_fit (sz := sz) h1
    omega

theorem ERel.mono {w w' : World} {F F' : Nat → Prop} (hF : ∀ b, F b → F' b) (hw : ∀ b : Nat, F b → w'.heap[b]? = w.heap[b]?) {cs : Array Value} {sz : Nat} {es : List (List LV)} (h : ERel w F cs sz es) : ERel w' F' cs sz es :=
  ⟨h.1, h.2.1, fun i e c q he hq => let ⟨v, hv, hr⟩ := h.2.2 i e c q he hq; ⟨v, hv, hr.mono hF hw⟩⟩

theorem ERel.set {cs : Array Value} {sz : Nat} {es : List (List LV)} (h : ERel w F cs sz es) {i : Nat} (hi : i < es.length) {v : Value} {q : List LV} (hn : v.cells.size = q.length) (hq : q.length = sz)
    (hv : ∀ (j : Nat) u l, v.cells[j]? = some u → q[j]? = some l → RelF w F u l) :
    ERel w F (v.cells.zipIdx.foldl (fun cs (c, j) => cs.setIfInBounds (i * sz + j) c) cs) sz (es.set i q) := by
  rw [← Array.foldl_toList, Array.toList_zipIdx]
  have hfit := at_fit (sz := sz) hi
  obtain ⟨h1, h2⟩ := foldSet (i * sz) v.cells.toList 0 cs (by simp [hn, hq, h.1]; omega)
  refine ⟨by rw [h1, h.1]; simp, fun e he => ?_, fun j e c l he hl => ?_⟩
  · rcases List.mem_or_eq_of_mem_set he with he | he
    · exact h.2.1 e he
    · rw [he, hq]
  · simp only [Nat.add_zero, Array.length_toList, hn, hq] at h2
    by_cases hj : j = i
    · subst hj
      rw [List.getElem?_set_self hi] at he
      injection he with he
      subst he
      have hc : c < sz := by have := (List.getElem?_eq_some_iff.1 hl).1; omega
      have hcv : c < v.cells.size := by omega
      refine ⟨v.cells[c], ?_, hv c _ l (Array.getElem?_eq_getElem hcv) hl⟩
      rw [h2, if_pos (by omega), Array.getElem?_toList, show j * sz + c - j * sz = c by omega]
      exact Array.getElem?_eq_getElem hcv
    · rw [List.getElem?_set_ne (Ne.symm hj)] at he
      have hc : c < sz := by
        have := (List.getElem?_eq_some_iff.1 hl).1
        rw [h.2.1 e (List.mem_of_getElem? he)] at this
        exact this
      obtain ⟨u, hu, hr⟩ := h.2.2 j e c l he hl
      refine ⟨u, ?_, hr⟩
      have := at_out (i' := i) (c' := 0) hc hj
      rw [h2, if_neg (by omega)]
      exact hu

theorem FrzP.some {m : Mem} {sz n : Nat} {ρl : Operand → LV} {ps : List (Nat × Operand)} {ps' : List (Nat × List LV)} {T : List Nat} (h : FrzP m sz n ρl ps ps' T) : ∀ b ∈ T, (m b).isSome = true := by
  induction h with
  | nil => simp
  | cons h h1 hi hl hr ih =>
    intro b hb
    rcases List.mem_append.1 hb with hb | hb
    · exact h.some b hb
    · exact ih b hb

theorem fillE_sound (h : Inv X st a w F ρ) {sz n : Nat} {ps : List (Nat × Operand)} {ps' : List (Nat × List LV)} {T : List Nat} (hp : FrzP st.m sz n (evalO st.ts) ps ps' T) :
    ∀ {cs : Array Value} {es : List (List LV)} {F' : Nat → Prop}, es.length = n → (∀ b, FT F ρ T b → F' b) → ERel w F' cs sz es →
    ∃ cs', Instr.fill (fun i => some (i * sz, sz)) cs (ps.map fun (i, x) => (i, a.eval x)) = some cs' ∧ ERel w F' cs' sz (fillE es ps') := by
  induction hp with
  | nil => intro cs es F' _ _ hr; exact ⟨cs, rfl, hr⟩
  | @cons i x q r r' S T hf h1 hi hl hr ih =>
    intro cs es F' hn hF her
    obtain ⟨h2, h3⟩ := frz_cells h (h.eval x) hf h1
    have hset := her.set (i := i) (by omega) (v := a.eval x) (q := q) h2 hl (fun j u l hu hl => ((h3 j u l hu hl).1).mono (fun b hb => hF b (FT.sub (fun x hx => List.mem_append_left _ hx) b hb)) (fun _ _ => rfl))
    obtain ⟨cs', h4, h5⟩ := ih (by simpa using hn) (fun b hb => hF b (FT.sub (fun x hx => List.mem_append_right _ hx) b hb)) hset
    refine ⟨cs', ?_, h5⟩
    simp only [List.map_cons, Instr.fill]
    rw [if_neg]
    · exact h4
    · have := at_fit (sz := sz) hi
      have h6 := her.1
      rw [hn] at h6
      simp [h2, hl]
      omega

theorem pure_zero (v : Value) : RelF w F v (pureC (constC v)) := by
  unfold constC
  split <;> first | exact .int _ _ | exact .bool _ | exact .str _ | exact .nilp | exact .nilm | exact .undef _ | skip
  exact .sl (blk := 0) (off := 0) (sz := 0) (fun _ _ => Go.undef) rfl (Nat.le_refl _) (fun h => absurd h (by omega)) (by simp) (by simp) (by simp)

theorem zeros_rel (z : Array Value) (hz : 0 < z.size) (n : Nat) : ERel w F (madeCells z (n * z.size)) z.size (List.replicate n ((z.toList.map constC).map pureC)) := by
  refine ⟨by simp [madeCells], fun e he => ?_, fun i e c q he hq => ?_⟩
  · rw [List.eq_of_mem_replicate he]
    simp
  · have he' := List.eq_of_mem_replicate (List.mem_of_getElem? he)
    subst he'
    have hi : i < n := by have := (List.getElem?_eq_some_iff.1 he).1; simpa using this
    have hc : c < z.size := by have := (List.getElem?_eq_some_iff.1 hq).1; simpa using this
    have hfit := at_fit (sz := z.size) hi
    refine ⟨z[c], ?_, ?_⟩
    · unfold madeCells
      rw [Array.getElem?_map, Array.getElem?_range, if_pos (by omega)]
      simp only [Option.map_some, Option.some.injEq]
      rw [Nat.mul_comm, Nat.mul_add_mod, Nat.mod_eq_of_lt hc, getElem!_pos z c hc]
    · simp only [List.getElem?_map, Array.getElem?_toList, Array.getElem?_eq_getElem hc, Option.map_some, Option.some.injEq] at hq
      subst hq
      exact pure_zero _

theorem buildSlice_sound (h : Inv X st a w F ρ) {d : Nat} {t e : TypeId} {n : Nat} {ps : Array (Nat × Operand)} {z : List LV} {ps' : List (Nat × List LV)} {T : List Nat}
    (ht : sliceE P t = some e) (hz : zeroL P e = some z) (hs : szT P e = some z.length) (hn : 0 < z.length) (hb : n * z.length ≤ 16777216) (hn0 : 0 < n) (hp : FrzP st.m z.length n (evalO st.ts) ps.toList ps' T)
    {o : Oper} (ho : o.op = .buildSlice t n ps) :
    Sound P X st a w o (.own d (genAt (effM st.m (markE st.m T)) d) 0 n none)
      (markE st.m T ++ [(d, ⟨genAt (effM st.m (markE st.m T)) d, false, .slc, z.length, fillE (List.replicate n (z.map pureC)) ps'⟩)]) := by
  obtain ⟨dst, op, ty, pos, after, guard⟩ := o
  simp only at ho
  subst ho
  obtain ⟨i, zv, hi, hz', rfl⟩ := zeroL_some hz
  simp only [List.length_map, Array.length_toList] at hs hn hb hp ⊢
  obtain ⟨i', hi', hs'⟩ := szT_some hs
  rw [hi] at hi'
  injection hi' with hi'
  subst hi'
  obtain ⟨F', hF1, hF2, hI⟩ := h.mark T
  have hF3 : ∀ b, FT F ρ T b → F' b := fun b hb => hF2 b hb hp.some
  obtain ⟨cs', h1, h2⟩ := fillE_sound h hp (cs := madeCells zv.cells (n * zv.cells.size)) (F' := F') (List.length_replicate ..) hF3 (zeros_rel zv.cells hn n)
  have hlen : (fillE (List.replicate n ((zv.cells.toList.map constC).map pureC)) ps').length = n := by
    have : ∀ (ps' : List (Nat × List LV)) (es : List (List LV)), (fillE es ps').length = es.length := by
      intro ps'
      induction ps' with
      | nil => intro es; rfl
      | cons p r ih => intro es; obtain ⟨i, cs⟩ := p; simp only [fillE]; rw [ih]; simp
    rw [this]
    simp
  refine ⟨_, .slice (some ⟨w.heap.size, 0, none⟩) n n, { w with heap := w.heap.push (.cells cs' e) }, F', updR ρ d ⟨w.heap.size, 0, n⟩, ?_, .inl rfl, ?_, ?_⟩
  · have hbs := run_buildSlice (P := P) w t e n (ps.map fun (i, x) => (i, a.eval x)) cs' i zv (sliceE_some ht) hi hz' (by rw [hs']; omega) (by rw [hs']; exact fun h0 => by have := Nat.mul_pos hn0 hn; omega)
      (by rw [hs']; simpa [madeCells] using h1)
    simp only [execOp, Sem.run_bind, hbs, Result.andThen_ok]
    rfl
  · rw [effM_append]
    refine hI.newCells d (k := .slc) (by simp) h2.2.1 (by rw [h2.1, hlen]; exact Nat.le_refl _) (by rw [hlen]; exact Nat.le_refl _) (fun i e c q he hq => ?_) rfl rfl rfl rfl
    obtain ⟨v, hv, hr⟩ := h2.2.2 i e c q he hq
    exact ⟨v, hv, hr⟩
  · rw [effM_append]
    exact .own rfl (updM_same _ _ _) (Nat.le_refl _) fun _ => ⟨rfl, by simp only [Nat.zero_add, hlen]; exact Nat.le_refl _, by
      rw [updR_same]
      exact ⟨_, n, rfl, fun _ => by simp, Nat.le_refl _, by simp⟩⟩

/-! ### Loads -/
theorem load_sound (h : Inv X st a w F ρ) {t : TypeId} {x : Operand} {b g i c : Nat} {y : Box} {cs : List LV} {v : LV} (ha : evalO st.ts x = .ref b g i c) (hm : st.m b = some y) (hg : y.gen = g) (hk : y.kind ≠ .mp)
    (he : y.es[i]? = some cs) (ht : isAggT P t = some false) (hv : cs[c]? = some v) {o : Oper} (ho : o.op = .load t x) : Sound P X st a w o v [] := by
  obtain ⟨dst, op, ty, pos, after, guard⟩ := o
  simp only at ho
  subst ho
  have hx := h.eval x
  rw [ha] at hx
  obtain ⟨-, l, hl, hx⟩ := hx.toRef hm hg
  obtain ⟨u, hu, hr⟩ := h.boxCell hm hk hl he hv
  refine Sound.val h (val := u) ?_ hr.relL
  simp only [execOp, Sem.run_bind, hx, run_load1 (P := P) ht hu, Result.andThen_ok]
  rfl
theorem loadA_sound (h : Inv X st a w F ρ) {t : TypeId} {x : Operand} {b g i c n : Nat} {y : Box} {cs : List LV} (ha : evalO st.ts x = .ref b g i c) (hm : st.m b = some y) (hg : y.gen = g) (hk : y.kind ≠ .mp)
    (he : y.es[i]? = some cs) (ht : isAggT P t = some true) (hs : szT P t = some n) (hc : c + n ≤ cs.length) {o : Oper} (ho : o.op = .load t x) : Sound P X st a w o (.agg ((cs.drop c).take n)) [] := by
  obtain ⟨dst, op, ty, pos, after, guard⟩ := o
  simp only at ho
  subst ho
  have hx := h.eval x
  rw [ha] at hx
  obtain ⟨-, l, hl, hx⟩ := hx.toRef hm hg
  obtain ⟨vs, hn, hcells⟩ := cells_list (P := fun j v => ∃ q, cs[c + j]? = some q ∧ RelL w F ρ st.m v q) (w := w) (blk := l.blk) (o := l.base + (i * y.sz + c)) (n := n) fun j hj => by
    have hq : cs[c + j]? = some (cs[c + j]'(by omega)) := List.getElem?_eq_getElem _
    obtain ⟨u, hu, hr⟩ := h.boxCell hm hk hl he hq
    exact ⟨u, by rw [show l.base + (i * y.sz + c) + j = l.base + (i * y.sz + (c + j)) by omega]; exact hu, _, hq, hr.relL⟩
  refine Sound.val h (val := .agg vs.toArray) ?_ (aggOfCells hn hc fun j v hv => (hcells j v hv).2)
  have := run_loadA (P := P) (w := w) (p := ⟨l.blk, l.base + (i * y.sz + c), none⟩) ht hs hn (fun j v hv => by rw [add_plain]; exact (hcells j v hv).1)
  simp only [execOp, Sem.run_bind, hx, this, Result.andThen_ok]
  rfl
theorem loadF_sound (h : Inv X st a w F ρ) {t : TypeId} {x : Operand} {es : List (List LV)} {i c : Nat} {cs : List LV} {v : LV} (ha : evalO st.ts x = .fad es i c)
    (he : es[i]? = some cs) (ht : isAggT P t = some false) (hv : cs[c]? = some v) {o : Oper} (ho : o.op = .load t x) : Sound P X st a w o v [] := by
  obtain ⟨dst, op, ty, pos, after, guard⟩ := o
  simp only at ho
  subst ho
  have hx := h.eval x
  rw [ha] at hx
  obtain ⟨blk, off, sz, val, hx, hF, hsz, hcell, hrel⟩ := hx.toFad
  refine Sound.val h (val := val i c) ?_ (.frz (hrel i cs c v he hv))
  simp only [execOp, Sem.run_bind, hx, run_load1 (P := P) ht (hcell i cs c v he hv), Result.andThen_ok]
  rfl
theorem loadFA_sound (h : Inv X st a w F ρ) {t : TypeId} {x : Operand} {es : List (List LV)} {i c n : Nat} {cs : List LV} (ha : evalO st.ts x = .fad es i c)
    (he : es[i]? = some cs) (ht : isAggT P t = some true) (hs : szT P t = some n) (hc : c + n ≤ cs.length) {o : Oper} (ho : o.op = .load t x) : Sound P X st a w o (.agg ((cs.drop c).take n)) [] := by
  obtain ⟨dst, op, ty, pos, after, guard⟩ := o
  simp only at ho
  subst ho
  have hx := h.eval x
  rw [ha] at hx
  obtain ⟨blk, off, sz, val, hx, hF, hsz, hcell, hrel⟩ := hx.toFad
  obtain ⟨vs, hn, hcells⟩ := cells_list (P := fun j v => ∃ q, cs[c + j]? = some q ∧ RelL w F ρ st.m v q) (w := w) (blk := blk) (o := off + (i * sz + c)) (n := n) fun j hj => by
    have hq : cs[c + j]? = some (cs[c + j]'(by omega)) := List.getElem?_eq_getElem _
    exact ⟨val i (c + j), by rw [show off + (i * sz + c) + j = off + (i * sz + (c + j)) by omega]; exact hcell i cs _ _ he hq, _, hq, .frz (hrel i cs _ _ he hq)⟩
  refine Sound.val h (val := .agg vs.toArray) ?_ (aggOfCells hn hc fun j v hv => (hcells j v hv).2)
  have := run_loadA (P := P) (w := w) (p := ⟨blk, off + (i * sz + c), none⟩) ht hs hn (fun j v hv => by rw [add_plain]; exact (hcells j v hv).1)
  simp only [execOp, Sem.run_bind, hx, this, Result.andThen_ok]
  rfl
end
end Go.Proofs.Ytpepcfombibpeaa.Mv
