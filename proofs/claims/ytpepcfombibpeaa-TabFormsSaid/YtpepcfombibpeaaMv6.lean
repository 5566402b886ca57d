/- Operations that make variables and slices, load and store, are sound. -/
import Derived.Test.YtpepcfombibpeaaMv5
set_option linter.unusedVariables false
set_option linter.unusedSimpArgs false
namespace Go.Proofs.Ytpepcfombibpeaa.Mv

/-- What one operation must come to. -/
def Sound (P : Program) (X : Ctx) (st : St) (a : Act) (w : World) (o : Oper) (v : LV) (eff : List (Nat × Box)) : Prop :=
  ∃ nx val w' F' ρ', (execOp a.eval o).run P w = .ok nx w' ∧ (nx = .value val ∨ (nx = .skip ∧ val = Go.undef)) ∧ Inv X ⟨st.ts, effM st.m eff⟩ a w' F' ρ' ∧ RelL w' F' ρ' (effM st.m eff) val v

section
variable {P : Program} {X : Ctx} {st : St} {a : Act} {w : World} {F : Nat → Prop} {ρ : Locs}

theorem Sound.val (h : Inv X st a w F ρ) {o : Oper} {v : LV} {val : Value} (hr : (execOp a.eval o).run P w = .ok (.value val) w) (hv : RelL w F ρ st.m val v) : Sound P X st a w o v [] :=
  ⟨_, val, w, F, ρ, hr, .inl rfl, h, hv⟩

/-- A new block of cells. -/
theorem Inv.newCells (h : Inv X st a w F ρ) (d : Nat) {cs0 : Array Value} {t : TypeId} {k : BK} (hk : k ≠ .mp) {sz ext : Nat} {es : List (List LV)} (hsz : ∀ e ∈ es, e.length = sz)
    (hext : ext * sz ≤ cs0.size) (hlen : es.length ≤ ext)
    (hcell : ∀ (i : Nat) e (c : Nat) q, es[i]? = some e → e[c]? = some q → ∃ v, cs0[i * sz + c]? = some v ∧ CellR w F ρ st.m k v q) {w' : World} (hh : w'.heap = w.heap.push (.cells cs0 t (0, 0)))
    (ho : w'.os = w.os) (ht : w'.tape = w.tape) (hu : w'.output = w.output) :
    Inv X ⟨st.ts, updM st.m d ⟨genAt st.m d, false, k, sz, es⟩⟩ a w' F (updR ρ d ⟨w.heap.size, 0, ext⟩) := by
  have hpush : ∀ b : Nat, b < w.heap.size → w'.heap[b]? = w.heap[b]? := fun b hb => by rw [hh, Array.getElem?_push, if_neg (by omega)]
  refine h.write ho ht hu (by rw [hh]; simp) (fun b hb _ => hpush b hb) (fun j hj => updR_ne _ _ (Ne.symm hj)) rfl (fun x hx => .inr ?_) (fun l hl => ?_) fun hc hF => ?_
  · simp [genAt, hx]
  · rw [updR_same] at hl
    injection hl with hl
    subst hl
    exact ⟨by rw [hh]; simp, .inl (Nat.le_refl _)⟩
  · have : CellsOK w' F (updR ρ d ⟨w.heap.size, 0, ext⟩) (updM st.m d ⟨genAt st.m d, false, k, sz, es⟩) ((updR ρ d ⟨w.heap.size, 0, ext⟩) d) ⟨genAt st.m d, false, k, sz, es⟩ := by
      rw [updR_same]
      refine ⟨cs0, t, by rw [hh]; simp, by simpa using hext, hlen, hsz, fun i e c q he hq => ?_⟩
      obtain ⟨v, hv, hr⟩ := hcell i e c q he hq
      exact ⟨v, by simpa using hv, hr.mono (fun _ h => h) hF hc⟩
    unfold BoxOK
    cases k with
    | var => exact this
    | slc => exact this
    | mp => exact absurd rfl hk

theorem zeroL_some {e : TypeId} {cs : List LV} (h : zeroL P e = some cs) : ∃ i z, P.info? e = some i ∧ i.zero = some z ∧ cs = z.cells.toList.map constC := by
  unfold zeroL at h
  cases hi : P.info? e with
  | none => simp [hi] at h
  | some i =>
    cases hz : i.zero with
    | none => simp [hi, hz] at h
    | some z =>
      simp [hi, hz] at h
      exact ⟨i, z, rfl, hz, h.symm⟩
theorem run_zero {e : TypeId} {i : TypeInfo} {z : Value} (hi : P.info? e = some i) (hz : i.zero = some z) (w : World) : (zeroValue e).run P w = .ok z w := by
  simp [zeroValue, typeInfo, hi, hz]

theorem relL_new {w' : World} {F' : Nat → Prop} {ρ : Locs} {m : Mem} {d blk ext : Nat} {x : Box} (hk : x.kind = .var) :
    RelL w' F' (updR ρ d ⟨blk, 0, ext⟩) (updM m d x) (.pointer (some ⟨blk, 0, none⟩)) (.ref d x.gen 0 0) :=
  .ref rfl (updM_same _ _ _) (Nat.le_refl _) fun _ => ⟨by rw [hk]; simp, _, updR_same _ _ _, by simp⟩

theorem alloc_sound (h : Inv X st a w F ρ) {d : Nat} {e : TypeId} {cs : List LV} (hz : zeroL P e = some cs) {o : Oper} (ho : o.op = .alloc e) :
    Sound P X st a w o (.ref d (genAt st.m d) 0 0) [(d, ⟨genAt st.m d, false, .var, cs.length, [cs]⟩)] := by
  obtain ⟨i, z, hi, hz', rfl⟩ := zeroL_some hz
  obtain ⟨dst, op, ty, pos, after, guard⟩ := o
  simp only at ho
  subst ho
  refine ⟨_, .pointer (some ⟨w.heap.size, 0, none⟩), { w with heap := w.heap.push (.cells z.cells e) }, F, updR ρ d ⟨w.heap.size, 0, 1⟩, ?_, .inl rfl, ?_, relL_new rfl⟩
  · simp [execOp, Instr.alloc, run_zero hi hz', newVar, newRow]
  · refine h.newCells d (by simp) (ext := 1) (by simp) (by simp) (by simp) (fun j e' c q he hq => ?_) rfl rfl rfl rfl
    have hj : j = 0 := by have := (List.getElem?_eq_some_iff.1 he).1; simp at this; omega
    subst hj
    simp only [List.getElem?_cons_zero, Option.some.injEq] at he
    subst he
    have hc : c < z.cells.size := by have := (List.getElem?_eq_some_iff.1 hq).1; simpa using this
    rw [List.getElem?_map, Array.getElem?_toList, Array.getElem?_eq_getElem hc] at hq
    simp only [Option.map_some, Option.some.injEq] at hq
    subst hq
    exact ⟨z.cells[c], by simp [hc], .frz (constC_rel _)⟩

theorem box_sound (h : Inv X st a w F ρ) {d : Nat} {e : TypeId} {x : Operand} {cs : List LV} (hx : cellsL (evalO st.ts x) = cs) (h1 : cs.all oneC = true) {o : Oper} (ho : o.op = .box e x) :
    Sound P X st a w o (.ref d (genAt st.m d) 0 0) [(d, ⟨genAt st.m d, false, .var, cs.length, [cs]⟩)] := by
  subst hx
  obtain ⟨hn, hr⟩ := (h.eval x).cellsOf h1
  obtain ⟨dst, op, ty, pos, after, guard⟩ := o
  simp only at ho
  subst ho
  refine ⟨_, .pointer (some ⟨w.heap.size, 0, none⟩), { w with heap := w.heap.push (.cells (a.eval x).cells e) }, F, updR ρ d ⟨w.heap.size, 0, 1⟩, ?_, .inl rfl, ?_, relL_new rfl⟩
  · simp [execOp, Instr.box, newVar, newRow]
  · refine h.newCells d (by simp) (ext := 1) (by simp) (by simp [hn]) (by simp) (fun j e' c q he hq => ?_) rfl rfl rfl rfl
    have hj : j = 0 := by have := (List.getElem?_eq_some_iff.1 he).1; simp at this; omega
    subst hj
    simp only [List.getElem?_cons_zero, Option.some.injEq] at he
    subst he
    have hc : c < (a.eval x).cells.size := by have := (List.getElem?_eq_some_iff.1 hq).1; omega
    exact ⟨(a.eval x).cells[c], by simp [hc], (hr c _ q (Array.getElem?_eq_getElem hc) hq).1⟩

/-! ### Building -/
theorem foldSet (off : Nat) : ∀ (l : List Value) (j0 : Nat) (cs : Array Value), off + j0 + l.length ≤ cs.size →
    ((l.zipIdx j0).foldl (fun cs (c, j) => cs.setIfInBounds (off + j) c) cs).size = cs.size ∧
    ∀ k, ((l.zipIdx j0).foldl (fun cs (c, j) => cs.setIfInBounds (off + j) c) cs)[k]? = if off + j0 ≤ k ∧ k < off + j0 + l.length then l[k - (off + j0)]? else cs[k]? := by
  intro l
  induction l with
  | nil => intro j0 cs _; refine ⟨rfl, fun k => ?_⟩; rw [if_neg (by simp only [List.length_nil]; omega)]; rfl
  | cons v r ih =>
    intro j0 cs hl
    simp only [List.length_cons] at hl
    obtain ⟨h1, h2⟩ := ih (j0 + 1) (cs.setIfInBounds (off + j0) v) (by simp; omega)
    simp only [List.zipIdx_cons, List.foldl_cons]
    refine ⟨by rw [h1]; simp, fun k => ?_⟩
    rw [h2 k]
    simp only [List.length_cons]
    by_cases hk : k = off + j0
    · subst hk
      rw [if_neg (by omega), if_pos (by omega), Array.getElem?_setIfInBounds_self_of_lt (by omega)]
      simp
    · by_cases hk2 : off + (j0 + 1) ≤ k ∧ k < off + (j0 + 1) + r.length
      · rw [if_pos hk2, if_pos (by omega), show k - (off + j0) = (k - (off + (j0 + 1))) + 1 by omega, List.getElem?_cons_succ]
      · rw [if_neg hk2, if_neg (by omega), Array.getElem?_setIfInBounds_ne (by omega)]

def CellsRel (w : World) (F : Nat → Prop) (ρ : Locs) (m : Mem) (cs : Array Value) (ls : List LV) : Prop :=
  cs.size = ls.length ∧ ∀ (i : Nat) v l, cs[i]? = some v → ls[i]? = some l → RelL w F ρ m v l

theorem fill_step {cs : Array Value} {ls : List LV} (hr : CellsRel w F ρ st.m cs ls) {v : Value} {q : List LV} (hv : CellsRel w F ρ st.m v.cells q) {off : Nat} (hf : off + q.length ≤ ls.length) :
    CellsRel w F ρ st.m (v.cells.zipIdx.foldl (fun cs (c, j) => cs.setIfInBounds (off + j) c) cs) (ls.take off ++ q ++ ls.drop (off + q.length)) := by
  rw [← Array.foldl_toList, Array.toList_zipIdx]
  obtain ⟨h1, h2⟩ := foldSet off v.cells.toList 0 cs (by simp [hv.1, hr.1]; omega)
  refine ⟨by rw [h1]; simp [hr.1]; omega, fun i u l hu hl => ?_⟩
  rw [h2 i] at hu
  simp only [Nat.add_zero, Array.length_toList, hv.1] at hu
  have ht : (ls.take off).length = off := by simp; omega
  by_cases hi : off ≤ i ∧ i < off + q.length
  · rw [if_pos hi, Array.getElem?_toList] at hu
    rw [List.getElem?_append_left (by simp; omega), List.getElem?_append_right (by omega), ht] at hl
    exact hv.2 _ u l hu hl
  · rw [if_neg hi] at hu
    refine hr.2 i u l hu ?_
    by_cases hlt : i < off
    · rw [List.getElem?_append_left (by simp; omega), List.getElem?_append_left (by omega), List.getElem?_take, if_pos hlt] at hl
      exact hl
    · rw [List.getElem?_append_right (by simp; omega), List.getElem?_drop] at hl
      simp only [List.length_append, ht] at hl
      rw [show off + q.length + (i - (off + q.length)) = i by omega] at hl
      exact hl

theorem fill_sound {place place' : Nat → Option (Nat × Nat)} (hp : ∀ i p, place' i = some p → place i = some p) (pv : Operand → Value) (pl : Operand → LV)
    (hrel : ∀ x, RelL w F ρ st.m (pv x) (pl x)) : ∀ {ps : List (Nat × Operand)} {cs : Array Value} {ls ls' : List LV},
    (∀ p ∈ ps, (cellsL (pl p.2)).all oneC = true) → CellsRel w F ρ st.m cs ls → fillL place' ls (ps.map fun (i, x) => (i, pl x)) = some ls' →
    ∃ cs', Instr.fill place cs (ps.map fun (i, x) => (i, pv x)) = some cs' ∧ CellsRel w F ρ st.m cs' ls' := by
  intro ps
  induction ps with
  | nil =>
    intro cs ls ls' _ hr h
    simp only [List.map_nil, fillL, Option.some.injEq] at h
    subst h
    exact ⟨cs, rfl, hr⟩
  | cons p r ih =>
    intro cs ls ls' h1 hr h
    obtain ⟨i, x⟩ := p
    simp only [List.map_cons, fillL] at h
    cases hpi : place' i with
    | none => rw [hpi] at h; cases h
    | some pp =>
      obtain ⟨off, size⟩ := pp
      rw [hpi] at h
      simp only at h
      split at h
      · rename_i hc
        have hcx := (hrel x).cellsOf (h1 (i, x) (by simp))
        have hcr : CellsRel w F ρ st.m (pv x).cells (cellsL (pl x)) := ⟨hcx.1, fun j u l hu hl => (hcx.2 j u l hu hl).1⟩
        have hst := fill_step hr hcr (off := off) (by rw [hc.1]; exact hc.2)
        rw [hc.1] at hst
        obtain ⟨cs', h2, h3⟩ := ih (fun p hp => h1 p (List.mem_cons_of_mem _ hp)) hst h
        refine ⟨cs', ?_, h3⟩
        simp only [List.map_cons, Instr.fill, hp i _ hpi]
        rw [if_neg]
        · exact h2
        · have : cs.size = ls.length := hr.1
          simp [hcx.1, hc.1]
          omega
      · cases h

/-- Every part of a literal is one cell, or an aggregate of such. -/
def partsOk (ρ : Operand → LV) (ps : List (Nat × Operand)) : Bool := ps.all fun p => (cellsL (ρ p.2)).all oneC

theorem build_sound (h : Inv X st a w F ρ) {t : TypeId} {ps : Array (Nat × Operand)} {v : LV} (hb : buildL P t (ps.toList.map fun (i, x) => (i, evalO st.ts x)) = some v)
    (hpo : partsOk (evalO st.ts) ps.toList = true) {o : Oper} (ho : o.op = .build t ps) : Sound P X st a w o v [] := by
  obtain ⟨dst, op, ty, pos, after, guard⟩ := o
  simp only at ho
  subst ho
  unfold buildL at hb
  cases hz : zeroL P t with
  | none => rw [hz] at hb; cases hb
  | some zl =>
    rw [hz] at hb
    simp only at hb
    split at hb
    case isFalse => cases hb
    rename_i hso
    cases hf : fillL (placeS P t) zl (ps.toList.map fun (i, x) => (i, evalO st.ts x)) with
    | none => rw [hf] at hb; cases hb
    | some ls' =>
      rw [hf] at hb
      simp only [Option.map_some, Option.some.injEq] at hb
      subst hb
      obtain ⟨i, z, hi, hz', rfl⟩ := zeroL_some hz
      have hzr : CellsRel w F ρ st.m z.cells (z.cells.toList.map constC) := by
        refine ⟨by simp, fun j u l hu hl => ?_⟩
        rw [List.getElem?_map, Array.getElem?_toList, hu] at hl
        simp at hl
        subst hl
        exact .frz (constC_rel u)
      have hpo' : ∀ p ∈ ps.toList, (cellsL (evalO st.ts p.2)).all oneC = true := by
        intro p hp
        unfold partsOk at hpo
        rw [List.all_eq_true] at hpo
        exact hpo p hp
      have run : ∀ (place : Nat → Option (Nat × Nat)), (∀ j p, placeS P t j = some p → place j = some p) →
          ∃ cs', Instr.fill place z.cells (ps.toList.map fun (i, x) => (i, a.eval x)) = some cs' ∧ CellsRel w F ρ st.m cs' ls' := fun place hp =>
        fill_sound hp a.eval (evalO st.ts) h.eval hpo' hzr hf
      have hbuilt : ∃ cs', P.built t (ps.toList.map fun (i, x) => (i, a.eval x)) = some cs' ∧ CellsRel w F ρ st.m cs' ls' := by
        unfold Program.built
        unfold sizesOk at hso
        cases hu : P.underlying t with
        | none => rw [hu] at hso; cases hso
        | some d =>
          rw [hu] at hso
          cases d <;> try (simp at hso; done)
          case struct fs =>
            simp only [hi, hz']
            have hso : ∀ f ∈ fs.toList, (szT P f.type).isSome = true := List.all_eq_true.1 hso
            have hpl : ∃ places, fs.toList.mapM (fun f => (P.info? f.type).map fun i => (f.offset, i.size)) = some places ∧ ∀ (j : Nat) f n, fs.toList[j]? = some f → szT P f.type = some n → places[j]? = some (f.offset, n) := by
              revert hso
              generalize fs.toList = l
              intro hso
              induction l with
              | nil => exact ⟨[], rfl, by simp⟩
              | cons f r ih =>
                obtain ⟨places, h1, h2⟩ := ih fun f hf => hso f (List.mem_cons_of_mem _ hf)
                have hf := hso f (by simp)
                cases hfi : szT P f.type with
                | none => rw [hfi] at hf; cases hf
                | some n =>
                  obtain ⟨fi, hfi', hfs⟩ := szT_some hfi
                  refine ⟨(f.offset, fi.size) :: places, by simp [List.mapM_cons, hfi', h1], fun j g k hg hk => ?_⟩
                  cases j with
                  | zero =>
                    simp at hg
                    subst hg
                    rw [hfi] at hk
                    injection hk with hk
                    simp [hfs, hk]
                  | succ j => exact h2 j g k (by simpa using hg) hk
            obtain ⟨places, h1, h2⟩ := hpl
            simp only [h1]
            refine run _ fun j p hp => ?_
            unfold placeS at hp
            rw [hu] at hp
            simp only at hp
            cases hfj : fs[j]? with
            | none => rw [hfj] at hp; cases hp
            | some f =>
              rw [hfj] at hp
              simp only at hp
              cases hn : szT P f.type with
              | none => rw [hn] at hp; cases hp
              | some n =>
                rw [hn] at hp
                injection hp with hp
                subst hp
                simpa using h2 j f n (by simpa using hfj) hn
          case array n e =>
            simp only [hi, hz']
            cases hn : szT P e with
            | none =>
              have hso : (szT P e).isSome = true := hso
              rw [hn] at hso
              cases hso
            | some k =>
              obtain ⟨ie, hie, hk⟩ := szT_some hn
              simp only [hie]
              refine run _ fun j p hp => ?_
              unfold placeS at hp
              rw [hu] at hp
              simp only [hn] at hp
              rw [hk]
              exact hp
      obtain ⟨cs', h1, h2⟩ := hbuilt
      refine Sound.val h (val := .agg cs') ?_ (.agg h2.1 h2.2)
      have : (ps.map fun (i, x) => (i, a.eval x)).toList = ps.toList.map fun (i, x) => (i, a.eval x) := by simp
      simp only [execOp, Sem.run_bind, run_build w t _ cs' (by rw [this]; exact h1), Result.andThen_ok]
      rfl
end
end Go.Proofs.Ytpepcfombibpeaa.Mv
