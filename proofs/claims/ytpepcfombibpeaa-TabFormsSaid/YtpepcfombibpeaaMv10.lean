/- The other operations, and all rules together. -/
import Derived.Test.YtpepcfombibpeaaMv9
set_option linter.unusedVariables false
set_option linter.unusedSimpArgs false
namespace Go.Proofs.Ytpepcfombibpeaa.Mv

section
variable {P : Program} {X : Ctx} {st : St} {a : Act} {w : World} {F : Nat → Prop} {ρ : Locs}

theorem RelL.toFn {m : Mem} {v : Value} {f : FuncId} {cs : List LV} (h : RelL w F ρ m v (.fn f cs)) : ∃ vs : Array Value, v = .func (.func f) #[] vs ∧ RelL w F ρ m (.agg vs) (.agg cs) := by
  cases h with
  | frz h => cases h with | fn hn hr => exact ⟨_, rfl, .frz (.agg hn hr)⟩
  | fn hn hr => exact ⟨_, rfl, .agg hn hr⟩

theorem lenL_slice (h : Inv X st a w F ρ) {x : Operand} {n : Nat} (hx : lenL (evalO st.ts x) = some n) (hlive : ∀ b g off len cap, evalO st.ts x = .own b g off len cap → ∃ y, st.m b = some y ∧ y.gen = g) :
    (∃ ad cap, a.eval x = .slice ad n cap ∧ n ≤ cap) ∨ ∃ s, evalO st.ts x = .str s ∧ a.eval x = .string s ∧ s.size = n := by
  have hv := h.eval x
  unfold lenL at hx
  split at hx
  · rename_i hx'
    injection hx with hx
    subst hx
    rw [hx'] at hv
    exact .inl ⟨none, 0, hv.nils, Nat.le_refl _⟩
  · rename_i b g off len cap hx'
    injection hx with hx
    subst hx
    rw [hx'] at hv
    obtain ⟨y, hm, hg⟩ := hlive _ _ _ _ _ hx'
    obtain ⟨hk, hl, hh⟩ := hv.toOwn hm hg
    cases hr : ρ b with
    | none =>
      rw [hr] at hh
      have hbx := BoxOK.cells (by rw [hk]; simp) (h.boxes b y hm)
      rw [hr] at hbx
      have hes : y.es = [] := hbx
      rw [hes] at hl
      simp at hl
      rw [hl.2]
      obtain ⟨a0, hh⟩ := hh
      exact .inl ⟨a0, 0, hh, Nat.le_refl _⟩
    | some l =>
      rw [hr] at hh
      obtain ⟨ao, cap', hv2, -, hc, -⟩ := hh
      exact .inl ⟨ao, cap', hv2, hc⟩
  · rename_i es hx'
    injection hx with hx
    subst hx
    rw [hx'] at hv
    obtain ⟨ad, len, cap, blk, off, sz', val, hv, g1, g2, -⟩ := hv.toSl
    exact .inl ⟨ad, cap, by rw [hv, g1], by omega⟩
  · rename_i s hx'
    injection hx with hx
    rw [hx'] at hv
    exact .inr ⟨s, hx', hv.str, hx⟩
  · cases hx

theorem call_run {b : Builtin} {xs : Array Operand} {ts : Array TypeId} {dst : Option Tmp} {ty : TypeId} {pos : String} {after : Array Edge} {guard : Option (Nat × Bool)} {v : Value} {w' : World} {s : Sem Value}
    (hb : ∀ cs, builtin b ts ty cs (xs.map a.eval) = (do pure (.value (← s)))) (hr : s.run P w = .ok v w') :
    (execOp a.eval { dst := dst, op := .call { callee := .builtin b, args := xs, argTypes := ts }, type := ty, pos := pos, after := after, guard := guard }).run P w = .ok (.value v) w' := by
  simp only [execOp, resolve, Sem.run_bind, Sem.run_pure, Result.andThen_ok, invoke, hb, hr]

theorem len_sound (h : Inv X st a w F ρ) {x : Operand} {t : TypeId} {n : Nat} (hx : lenL (evalO st.ts x) = some n) (hlive : ∀ b g off len cap, evalO st.ts x = .own b g off len cap → ∃ y, st.m b = some y ∧ y.gen = g)
    (ht : ((∃ e, P.underlying t = some (.slice e)) ∧ ∀ s, evalO st.ts x ≠ .str s) ∨ (P.underlying t = some .string ∧ ∃ s, evalO st.ts x = .str s))
    {o : Oper} (ho : o.op = .call { callee := .builtin .len, args := #[x], argTypes := #[t] }) : Sound P X st a w o (.int .i64 n) [] := by
  obtain ⟨dst, op, ty, pos, after, guard⟩ := o
  simp only at ho
  subst ho
  refine Sound.val h (val := .int .i64 n) (call_run (fun _ => rfl) ?_) (.mk_int _ _)
  rcases ht with ⟨⟨e, ht⟩, hns⟩ | ⟨ht, s, hs⟩
  · rcases lenL_slice h hx hlive with ⟨ad, cap, hv, -⟩ | ⟨s, hs, -⟩
    · simp [Builtin.len_, hv, run_underlying ht, goInt]
    · exact absurd hs (hns s)
  · rcases lenL_slice h hx hlive with ⟨ad, cap, hv, -⟩ | ⟨s', hs', hv, hn⟩
    · have := h.eval x
      rw [hs, hv] at this
      cases this.str
    · simp [Builtin.len_, hv, run_underlying ht, goInt, hn]

theorem append0_sound (h : Inv X st a w F ρ) {x y : Operand} {t e : TypeId} {n : Nat} (hx : lenL (evalO st.ts x) = some n) (hxs : ∀ s, evalO st.ts x ≠ .str s) (ht : sliceE P t = some e) (hsz : (szT P e).isSome = true)
    (hy : lenL (evalO st.ts y) = some 0) (hys : ∀ s, evalO st.ts y ≠ .str s) (hlx : ∀ b g off len cap, evalO st.ts x = .own b g off len cap → ∃ y, st.m b = some y ∧ y.gen = g)
    (hly : ∀ b g off len cap, evalO st.ts y = .own b g off len cap → ∃ y, st.m b = some y ∧ y.gen = g) {o : Oper} (ho : o.op = .call { callee := .builtin .append, args := #[x, y], argTypes := #[t, t] }) :
    Sound P X st a w o (evalO st.ts x) [] := by
  obtain ⟨dst, op, ty, pos, after, guard⟩ := o
  simp only at ho
  subst ho
  have hxv : ∃ ad cap, a.eval x = .slice ad n cap ∧ n ≤ cap := by
    rcases lenL_slice h hx hlx with h1 | ⟨s, hs, -⟩
    · exact h1
    · exact absurd hs (hxs s)
  have hyv : ∃ ad cap, a.eval y = .slice ad 0 cap ∧ 0 ≤ cap := by
    rcases lenL_slice h hy hly with h1 | ⟨s, hs, -⟩
    · exact h1
    · exact absurd hs (hys s)
  obtain ⟨ad, cap, hxv, hc⟩ := hxv
  obtain ⟨ad', cap', hyv, -⟩ := hyv
  cases hs : szT P e with
  | none => rw [hs] at hsz; cases hsz
  | some k =>
    obtain ⟨i, hi, hk⟩ := szT_some hs
    refine Sound.val h (val := a.eval x) (call_run (fun _ => rfl) ?_) (h.eval x)
    have hf : (Builtin.firstCells i.size 0 (.slice ad' 0 cap')).run P w = .ok #[] w := by
      cases ad' <;> simp [Builtin.firstCells, loadCells, loadCellsFrom]
    cases ad with
    | none => simp [Builtin.append_, hxv, hyv, run_underlying (sliceE_some ht), sizeOf, typeInfo, hi, Builtin.lenOf, hc, hf]
    | some ad => simp [Builtin.append_, hxv, hyv, run_underlying (sliceE_some ht), sizeOf, typeInfo, hi, Builtin.lenOf, hc, hf, storeCells]

theorem fold2_sound (f : LV → LV → Option LV) (g : Value → Value → Sem Value) (hfg : ∀ x y v vx vy, RelL w F ρ st.m vx x → RelL w F ρ st.m vy y → f x y = some v → ∃ u, (g vx vy).run P w = .ok u w ∧ RelL w F ρ st.m u v) :
    ∀ {xs : List LV} {vs : List Value} {x v : LV} {vx : Value}, vs.length = xs.length → (∀ (i : Nat) u l, vs[i]? = some u → xs[i]? = some l → RelL w F ρ st.m u l) → RelL w F ρ st.m vx x → fold2L f x xs = some v →
    ∃ u, (vs.foldlM g vx).run P w = .ok u w ∧ RelL w F ρ st.m u v := by
  intro xs
  induction xs with
  | nil =>
    intro vs x v vx hn _ hx h
    have : vs = [] := List.eq_nil_of_length_eq_zero (by simpa using hn)
    subst this
    simp only [fold2L, Option.some.injEq] at h
    subst h
    exact ⟨vx, by simp, hx⟩
  | cons y r ih =>
    intro vs x v vx hn hr hx h
    cases vs with
    | nil => simp at hn
    | cons u us =>
      simp only [fold2L] at h
      split at h
      · rename_i z hz
        obtain ⟨u', h1, h2⟩ := hfg x y z vx u hx (hr 0 u y rfl rfl) hz
        obtain ⟨u2, h3, h4⟩ := ih (vs := us) (by simpa using hn) (fun i a l ha hl => hr (i + 1) a l (by simpa using ha) (by simpa using hl)) h2 h
        exact ⟨u2, by simp [h1, h3], h4⟩
      · cases h
theorem evals_rel (h : Inv X st a w F ρ) (xs : List Operand) : ∀ (i : Nat) u l, (xs.map a.eval)[i]? = some u → (xs.map (evalO st.ts))[i]? = some l → RelL w F ρ st.m u l := by
  intro i u l hu hl
  rw [List.getElem?_map] at hu hl
  cases hx : xs[i]? with
  | none => rw [hx] at hu; cases hu
  | some x =>
    rw [hx] at hu hl
    simp at hu hl
    subst hu hl
    exact h.eval x

theorem max_sound (h : Inv X st a w F ρ) {x : Operand} {xs : List Operand} {ts : Array TypeId} {v : LV} (hv : fold2L max2L (evalO st.ts x) (xs.map (evalO st.ts)) = some v)
    {o : Oper} (ho : o.op = .call { callee := .builtin .max, args := (x :: xs).toArray, argTypes := ts }) : Sound P X st a w o v [] := by
  obtain ⟨dst, op, ty, pos, after, guard⟩ := o
  simp only at ho
  subst ho
  obtain ⟨u, h1, h2⟩ := fold2_sound (P := P) (w := w) (F := F) (ρ := ρ) (st := st) max2L Builtin.max2 (fun x y v vx vy hx hy hm => by
    unfold max2L at hm
    split at hm
    · injection hm with hm
      subst hm
      rw [hx.int, hy.int]
      exact ⟨_, by simp only [Builtin.max2, Sem.run_pure], .mk_int _ _⟩
    · cases hm) (vs := xs.map a.eval) (by simp) (evals_rel h xs) (h.eval x) hv
  refine Sound.val h (val := u) (call_run (fun _ => rfl) ?_) h2
  simp only [Builtin.max_, List.map_toArray, List.map_cons]
  exact h1
theorem min_sound (h : Inv X st a w F ρ) {x : Operand} {xs : List Operand} {ts : Array TypeId} {v : LV} (hv : fold2L min2L (evalO st.ts x) (xs.map (evalO st.ts)) = some v)
    {o : Oper} (ho : o.op = .call { callee := .builtin .min, args := (x :: xs).toArray, argTypes := ts }) : Sound P X st a w o v [] := by
  obtain ⟨dst, op, ty, pos, after, guard⟩ := o
  simp only at ho
  subst ho
  obtain ⟨u, h1, h2⟩ := fold2_sound (P := P) (w := w) (F := F) (ρ := ρ) (st := st) min2L Builtin.min2 (fun x y v vx vy hx hy hm => by
    unfold min2L at hm
    split at hm
    · injection hm with hm
      subst hm
      rw [hx.int, hy.int]
      exact ⟨_, by simp only [Builtin.min2, Sem.run_pure], .mk_int _ _⟩
    · cases hm) (vs := xs.map a.eval) (by simp) (evals_rel h xs) (h.eval x) hv
  refine Sound.val h (val := u) (call_run (fun _ => rfl) ?_) h2
  simp only [Builtin.min_, List.map_toArray, List.map_cons]
  exact h1

theorem makeSlice_sound (h : Inv X st a w F ρ) {d : Nat} {t e : TypeId} {ln cp : Operand} {k k' : IntKind} {n c : Int} {z : List LV} (ht : sliceE P t = some e) (hz : zeroL P e = some z) (hs : szT P e = some z.length) (hzl : 0 < z.length)
    (hn : evalO st.ts ln = .int k n) (hc : evalO st.ts cp = .int k' c) (h0 : 0 ≤ n) (h1 : n ≤ c) (h2 : c ≤ 4294967296) (hb : P.bytesOf e ≤ 4096) {o : Oper} (ho : o.op = .makeSlice t ln cp) :
    Sound P X st a w o (.own d (genAt st.m d) 0 n.toNat none) [(d, ⟨genAt st.m d, false, .slc, z.length, List.replicate c.toNat (z.map pureC)⟩)] := by
  obtain ⟨dst, op, ty, pos, after, guard⟩ := o
  simp only at ho
  subst ho
  obtain ⟨i, zv, hi, hz', rfl⟩ := zeroL_some hz
  simp only [List.length_map, Array.length_toList] at hs hzl ⊢
  obtain ⟨i', hi', hs'⟩ := szT_some hs
  rw [hi] at hi'
  injection hi' with hi'
  subst hi'
  have hby : i.bytes ≤ 4096 := by simpa [Program.bytesOf, hi] using hb
  have e1 := h.eval ln
  have e2 := h.eval cp
  rw [hn] at e1
  rw [hc] at e2
  have hbig : (i.bytes : Int) * c ≤ 281474976710656 := by
    have : (i.bytes : Int) * c ≤ 4096 * 4294967296 := Int.mul_le_mul (by omega) h2 (by omega) (by omega)
    omega
  have hr := run_make (P := P) w t e i zv (sliceE_some ht) hi hz' k k' n c h0 h1 hbig (by omega)
  have hzr := zeros_rel (w := w) (F := F) zv.cells hzl c.toNat
  refine ⟨_, .slice (some ⟨w.heap.size, 0, none⟩) n.toNat c.toNat, _, F, updR ρ d ⟨w.heap.size, 0, c.toNat⟩, ?_, .inl rfl,
    h.newCells d (k := .slc) (cs0 := madeCells zv.cells (c.toNat * zv.cells.size)) (t := e) (w' := w.alloc (.cells (madeCells zv.cells (c.toNat * i.size)) e)) (by simp) hzr.2.1 (by rw [hzr.1]; simp) (by simp) (fun i e c q he hq => hzr.2.2 i e c q he hq) (by rw [hs']; rfl) rfl rfl rfl, ?_⟩
  · simp only [execOp, Sem.run_bind, e1.int, e2.int, hr, Result.andThen_ok]
    rfl
  · exact .own rfl (updM_same _ _ _) (Nat.le_refl _) fun _ => ⟨rfl, by simp; omega, by rw [updR_same]; exact ⟨_, c.toNat, rfl, fun _ => by simp, by omega, by simp⟩⟩

/-! ### Maps -/
theorem Inv.newMap (h : Inv X st a w F ρ) (d : Nat) : Inv X ⟨st.ts, updM st.m d ⟨genAt st.m d, false, .mp, 2, []⟩⟩ a { w with heap := w.heap.push (.map #[] 0) } F (updR ρ d ⟨w.heap.size, 0, 0⟩) := by
  have hpush : ∀ b : Nat, b < w.heap.size → (w.heap.push (.map #[] 0))[b]? = w.heap[b]? := fun b hb => by rw [Array.getElem?_push, if_neg (by omega)]
  refine h.write rfl rfl rfl (by simp) (fun b hb _ => hpush b hb) (fun j hj => updR_ne _ _ (Ne.symm hj)) rfl (fun x hx => .inr ?_) (fun l hl => ?_) fun hc hF => ?_
  · simp [genAt, hx]
  · rw [updR_same] at hl
    injection hl with hl
    subst hl
    exact ⟨by simp, .inl (Nat.le_refl _)⟩
  · unfold BoxOK
    simp only
    rw [updR_same]
    exact ⟨_, #[], 0, rfl, by simp, trivial⟩
theorem makeMap_sound (h : Inv X st a w F ρ) {d : Nat} {t : TypeId} {o : Oper} (ho : o.op = .makeMap t none) :
    Sound P X st a w o (.mref d (genAt st.m d)) [(d, ⟨genAt st.m d, false, .mp, 2, []⟩)] := by
  obtain ⟨dst, op, ty, pos, after, guard⟩ := o
  simp only at ho
  subst ho
  refine ⟨_, .map (some w.heap.size), { w with heap := w.heap.push (.map #[] 0) }, F, _, ?_, .inl rfl, h.newMap d, .mref rfl (updM_same _ _ _) (Nat.le_refl _) fun _ => ⟨rfl, _, updR_same _ _ _, rfl⟩⟩
  simp [execOp, Instr.makeMap]

theorem sameNow_eqT {t : TypeId} {d : TypeDesc} {x y : LV} {vx vy : Value} {b : Bool} (hd : P.underlying t = some d) (hx : RelL w F ρ st.m vx x) (hy : RelL w F ρ st.m vy y) (h : eqT P t x y = some b) : Instr.sameNow d vx vy = some b := by
  unfold eqT at h
  rw [hd] at h
  split at h
  · rename_i hu
    injection hu with hu
    subst hu
    split at h
    · rename_i hk
      injection h with h
      subst hk h
      rw [hx.int, hy.int]
      simp [Instr.sameNow]
    · cases h
  · rename_i hu
    injection hu with hu
    subst hu
    injection h with h
    subst h
    rw [hx.bool, hy.bool]
    rfl
  · rename_i hu
    injection hu with hu
    subst hu
    injection h with h
    subst h
    rw [hx.str, hy.str]
    simp [Instr.sameNow, beq_toListBytes]
  · cases h
theorem findNow_sound {t : TypeId} {d : TypeDesc} {k : LV} {vk : Value} (hd : P.underlying t = some d) (hk : RelL w F ρ st.m vk k) : ∀ {ents : List MapEntry} {es : List (List LV)} {r : Option LV} (i0 : Nat), EntsR w F ents es → findL P t k es = some r →
    (r = none ∧ Instr.findNow d vk ents i0 = some none) ∨ ∃ j u v, r = some v ∧ Instr.findNow d vk ents i0 = some (some (i0 + j, u)) ∧ j < ents.length ∧ RelF w F u v
  | [], [], r, i0, _, h => by
    simp only [findL, Option.some.injEq] at h
    exact .inl ⟨h.symm, rfl⟩
  | e :: ents, [k', v'] :: es, r, i0, hr, h => by
    simp only [findL] at h
    split at h
    · rename_i heq
      injection h with h
      have := sameNow_eqT (P := P) hd hk (.frz hr.1) heq
      exact .inr ⟨0, e.val, v', h.symm, by simp [Instr.findNow, this], by simp, hr.2.1⟩
    · rename_i heq
      have hs := sameNow_eqT (P := P) hd hk (.frz hr.1) heq
      rcases findNow_sound hd hk (i0 + 1) hr.2.2 h with ⟨h1, h2⟩ | ⟨j, u, v, h1, h2, h3, h4⟩
      · exact .inl ⟨h1, by simp [Instr.findNow, hs, h2]⟩
      · exact .inr ⟨j + 1, u, v, h1, by simp only [Instr.findNow, hs, h2]; rw [show i0 + 1 + j = i0 + (j + 1) by omega], by simp; omega, h4⟩
    · cases h
  | [], _ :: _, _, _, hr, _ => hr.elim
  | _ :: _, [], _, _, hr, _ => hr.elim
  | _ :: _, [] :: _, _, _, hr, _ => hr.elim
  | _ :: _, [_] :: _, _, _, hr, _ => hr.elim
  | _ :: _, (_ :: _ :: _ :: _) :: _, _, _, hr, _ => hr.elim

theorem scalK_some {t : TypeId} (h : scalK P t = true) : ∃ d, P.underlying t = some d ∧ (d = .bool ∨ (∃ k, d = .int k) ∨ d = .string) := by
  unfold scalK at h
  split at h <;> first | (rename_i hu; exact ⟨_, hu, by simp⟩) | cases h
theorem checkKey_succ {t : TypeId} (h : scalK P t = true) (b : Bool) (v : Value) (n : Nat) : (Instr.checkKey b (n + 1) t v).run P w = .ok () w := by
  obtain ⟨d, hd, rfl | ⟨k, rfl⟩ | rfl⟩ := scalK_some h <;> simp [Instr.checkKey, run_underlying hd]
theorem checkKey_run {t : TypeId} (h : scalK P t = true) (b : Bool) (v : Value) : (Instr.checkKey b 10000 t v).run P w = .ok () w := checkKey_succ h b v 9999

theorem mapAt (h : Inv X st a w F ρ) {x : Operand} {b g : Nat} {y : Box} (hx : evalO st.ts x = .mref b g) (hm : st.m b = some y) (hg : y.gen = g) :
    ∃ (l : Loc) (ents : Array MapEntry) (clock : Nat), ρ b = some l ∧ a.eval x = .map (some l.blk) ∧ w.heap[l.blk]? = some (.map ents clock) ∧ EntsR w F ents.toList y.es := by
  have hv := h.eval x
  rw [hx] at hv
  obtain ⟨hk, l, hl, hv⟩ := hv.toMref hm hg
  have hb := h.boxes b y hm
  unfold BoxOK at hb
  rw [hk] at hb
  obtain ⟨l', ents, clock, h1, h2, h3⟩ := hb
  rw [hl] at h1
  injection h1 with h1
  subst h1
  exact ⟨l, ents, clock, hl, hv, h2, h3⟩
theorem run_getMap {blk : Nat} {ents : Array MapEntry} {clock : Nat} (h : w.heap[blk]? = some (.map ents clock)) : (getObj blk).run P w = .ok (.map ents clock) w := by
  simp [getObj, Sem.run, h]

theorem lookup_sound (h : Inv X st a w F ρ) {t kt et : TypeId} {x ix : Operand} {ok : Bool} {b g : Nat} {y : Box} {r : Option LV} {z : LV} (hx : evalO st.ts x = .mref b g) (hm : st.m b = some y) (hg : y.gen = g)
    (ht : P.underlying t = some (.map kt et)) (hkt : scalK P kt = true) (hz : zero1L P et = some z) (hf : findL P kt (evalO st.ts ix) y.es = some r) {o : Oper} (ho : o.op = .lookup t x ix ok) :
    Sound P X st a w o (cond ok (.tup [r.getD z, .bool r.isSome]) (r.getD z)) [] := by
  obtain ⟨dst, op, ty, pos, after, guard⟩ := o
  simp only at ho
  subst ho
  obtain ⟨l, ents, clock, hl, hv, hheap, hen⟩ := mapAt h hx hm hg
  obtain ⟨d, hd, -⟩ := scalK_some hkt
  obtain ⟨i, zv, hi, hz', hzv⟩ : ∃ i zv, P.info? et = some i ∧ i.zero = some zv ∧ RelF w F zv z := by
    unfold zero1L at hz
    cases hi : P.info? et with
    | none => rw [hi] at hz; cases hz
    | some i =>
      rw [hi] at hz
      simp only at hz
      split at hz
      · cases hz
      · rename_i v _ hv
        injection hz with hz
        subst hz
        exact ⟨i, v, rfl, hv, constC_rel v⟩
      · cases hz
  have hres : ∃ u, (Instr.lookup t (.map (some l.blk)) (a.eval ix) ok).run P w = .ok (if ok then .tuple #[u, .bool r.isSome] else u) w ∧ RelF w F u (r.getD z) := by
    rcases findNow_sound (P := P) hd (h.eval ix) 0 hen hf with ⟨rfl, h2⟩ | ⟨j, u, v, rfl, h2, -, h4⟩
    · refine ⟨zv, ?_, hzv⟩
      cases ok <;> simp [Instr.lookup, run_underlying ht, run_getMap hheap, checkKey_run hkt, Instr.findKey, run_underlying hd, h2, run_zero hi hz']
    · refine ⟨u, ?_, h4⟩
      cases ok <;> simp [Instr.lookup, run_underlying ht, run_getMap hheap, checkKey_run hkt, Instr.findKey, run_underlying hd, h2]
  obtain ⟨u, h1, h2⟩ := hres
  refine Sound.val h (val := if ok then .tuple #[u, .bool r.isSome] else u) ?_ ?_
  · simp only [execOp, Sem.run_bind, hv, h1, Result.andThen_ok]
    rfl
  · cases ok
    · exact .frz h2
    · refine .tup rfl fun i v l hv hl => ?_
      match i with
      | 0 =>
        simp at hv hl
        subst hv hl
        exact .frz h2
      | 1 =>
        simp at hv hl
        subst hv hl
        exact .mk_bool _
      | i + 2 => simp at hv

/-- A map is written. -/
theorem EntsR.set {t : TypeId} {d : TypeDesc} {k v : LV} {vk vv : Value} (hd : P.underlying t = some d) (hk : RelF w F vk k) (hv : RelF w F vv v) : ∀ {ents : List MapEntry} {es : List (List LV)} {r : Option LV} (i0 : Nat), EntsR w F ents es → findL P t k es = some r →
    (Instr.findNow d vk ents i0 = some none ∧ ∀ b, EntsR w F (ents ++ [{ key := vk, val := vv, born := b }]) (setL P t k v es)) ∨
    ∃ j u, Instr.findNow d vk ents i0 = some (some (i0 + j, u)) ∧ (∃ e : MapEntry, ents[j]? = some e ∧ EntsR w F (ents.modify j fun e => { e with key := vk, val := vv }) (setL P t k v es) ∧ ∃ k', RelF w F e.key k' ∧ eqT P t k k' = some true)
  | [], [], r, i0, _, h => .inl ⟨rfl, fun b => ⟨hk, hv, trivial⟩⟩
  | e :: ents, [k', v'] :: es, r, i0, hr, h => by
    simp only [findL] at h
    split at h
    · rename_i heq
      have := sameNow_eqT (st := ⟨fun _ => .undef, fun _ => none⟩) (ρ := fun _ => none) (P := P) hd (.frz hk) (.frz hr.1) heq
      refine .inr ⟨0, e.val, by simp [Instr.findNow, this], e, rfl, ?_, k', hr.1, heq⟩
      simp only [setL, heq, Option.getD_some, cond_true, List.modify_zero_cons]
      exact ⟨hk, hv, hr.2.2⟩
    · rename_i heq
      have hs := sameNow_eqT (st := ⟨fun _ => .undef, fun _ => none⟩) (ρ := fun _ => none) (P := P) hd (.frz hk) (.frz hr.1) heq
      rcases EntsR.set hd hk hv (i0 + 1) hr.2.2 h with ⟨h1, h2⟩ | ⟨j, u, h1, e', h2, h3, h4⟩
      · refine .inl ⟨by simp [Instr.findNow, hs, h1], fun b => ?_⟩
        simp only [setL, heq, Option.getD_some, cond_false, List.cons_append]
        exact ⟨hr.1, hr.2.1, h2 b⟩
      · refine .inr ⟨j + 1, u, by simp only [Instr.findNow, hs, h1]; rw [show i0 + 1 + j = i0 + (j + 1) by omega], e', by simpa using h2, ?_, h4⟩
        simp only [setL, heq, Option.getD_some, cond_false, List.modify_succ_cons]
        exact ⟨hr.1, hr.2.1, h3⟩
    · cases h
  | [], _ :: _, _, _, hr, _ => hr.elim
  | _ :: _, [], _, _, hr, _ => hr.elim
  | _ :: _, [] :: _, _, _, hr, _ => hr.elim
  | _ :: _, [_] :: _, _, _, hr, _ => hr.elim
  | _ :: _, (_ :: _ :: _ :: _) :: _, _, _, hr, _ => hr.elim

theorem sameBits_eqT {t : TypeId} {x y : LV} {vx vy : Value} (hx : RelF w F vx x) (hy : RelF w F vy y) (h : eqT P t x y = some true) (n : Nat) : Instr.sameBits (n + 1) vy vx = true := by
  unfold eqT at h
  split at h
  · split at h
    · rename_i hk
      injection h with h
      subst hk
      cases hx
      cases hy
      simp only [beq_iff_eq] at h
      simp [Instr.sameBits, h]
    · cases h
  · injection h with h
    cases hx
    cases hy
    simp only [beq_iff_eq] at h
    simp [Instr.sameBits, h]
  · injection h with h
    cases hx
    cases hy
    have h := beq_iff_eq.1 h
    simp only [Instr.sameBits, beq_toListBytes]
    simp [h]
  · cases h

theorem mapUpdate_sound (h : Inv X st a w F ρ) {t kt et : TypeId} {x ix y : Operand} {b g : Nat} {bx : Box} {r : Option LV} (hx : evalO st.ts x = .mref b g) (hm : st.m b = some bx) (hg : bx.gen = g) (hf : bx.frz = false)
    (ht : P.underlying t = some (.map kt et)) (hkt : scalK P kt = true) (hkp : pureL (evalO st.ts ix) = true) (hfd : findL P kt (evalO st.ts ix) bx.es = some r) (hp : pureL (evalO st.ts y) = true) {o : Oper} (ho : o.op = .mapUpdate t x ix y) :
    Sound P X st a w o .skip [(b, { bx with es := setL P kt (evalO st.ts ix) (evalO st.ts y) bx.es })] := by
  obtain ⟨dst, op, ty, pos, after, guard⟩ := o
  simp only at ho
  subst ho
  obtain ⟨l, ents, clock, hl, hv, hheap, hen⟩ := mapAt h hx hm hg
  have hkind : bx.kind = .mp := by
    have hv := h.eval x
    rw [hx] at hv
    exact (hv.toMref hm hg).1
  obtain ⟨d, hd, -⟩ := scalK_some hkt
  have hkf := RelF.of_pure hkp (h.eval ix)
  have hvf := RelF.of_pure hp (h.eval y)
  have key : ∃ ents' clock', (Instr.mapUpdate t (.map (some l.blk)) (a.eval ix) (a.eval y)).run P w = .ok () { w with heap := w.heap.setIfInBounds l.blk (.map ents' clock') } ∧ EntsR w F ents'.toList (setL P kt (evalO st.ts ix) (evalO st.ts y) bx.es) := by
    have hset : ∀ ents' clock', (setObj l.blk (.map ents' clock')).run P w = .ok () { w with heap := w.heap.setIfInBounds l.blk (.map ents' clock') } := by
      intro ents' clock'
      simp [setObj, Sem.run, hheap]
    rcases EntsR.set (P := P) hd hkf hvf 0 hen hfd with ⟨h1, h2⟩ | ⟨j, u, h1, e, he, h2, k', hk', heq⟩
    · refine ⟨ents.push { key := a.eval ix, val := a.eval y, born := clock }, clock + 1, ?_, by simpa using h2 clock⟩
      simp [Instr.mapUpdate, run_underlying ht, run_getMap hheap, checkKey_run hkt, Instr.findKey, run_underlying hd, h1, hset]
    · have hej : ents[j]? = some e := by simpa using he
      have hs := sameBits_eqT (P := P) hkf hk' heq 9999
      refine ⟨ents.modify j fun e => { e with key := a.eval ix, val := a.eval y }, clock, ?_, ?_⟩
      · simp only [Nat.zero_add] at h1
        simp [Instr.mapUpdate, run_underlying ht, run_getMap hheap, checkKey_run hkt, Instr.findKey, run_underlying hd, h1, hset, hej, Instr.keyThatStays, hs]
      · simpa using h2
  obtain ⟨ents', clock', hrun, hen'⟩ := key
  have hblt := (h.place b bx l hm hl).1
  have hother : ∀ k : Nat, k ≠ l.blk → (w.heap.setIfInBounds l.blk (.map ents' clock'))[k]? = w.heap[k]? := fun k hk => Array.getElem?_setIfInBounds_ne (Ne.symm hk)
  refine ⟨_, Go.undef, { w with heap := w.heap.setIfInBounds l.blk (.map ents' clock') }, F, ρ, ?_, .inr ⟨rfl, rfl⟩, ?_, .frz .skip⟩
  · simp only [execOp, Sem.run_bind, hv, hrun, Result.andThen_ok]
    rfl
  · refine h.write rfl rfl rfl (by simp) (fun k _ hne => hother k (hne bx l hm hf hl)) (fun k _ => rfl) hf (fun y hy => ?_) (fun l' hl' => ?_) fun hc hF => ?_
    · rw [hm] at hy
      injection hy with hy
      subst hy
      exact .inl ⟨rfl, rfl, rfl, .inl hkind, rfl⟩
    · rw [hl] at hl'
      injection hl' with hl'
      subst hl'
      exact ⟨by simpa using hblt, .inr ⟨bx, l, hm, hf, hl, rfl⟩⟩
    · unfold BoxOK
      simp only [hkind]
      exact ⟨l, ents', clock', hl, by simp [hblt], hen'.mono (fun _ h => h) hF⟩

/-! ### The rest -/
theorem nilCheck_ptr {p : Addr} {x : Operand} (hv : a.eval x = .pointer (some p)) {dst : Option Tmp} {ty : TypeId} {pos : String} {after : Array Edge} {guard : Option (Nat × Bool)} :
    (execOp a.eval { dst := dst, op := .nilCheck x, type := ty, pos := pos, after := after, guard := guard }).run P w = .ok (.value (.pointer (some p))) w := by
  simp [execOp, hv]

/-- Every rule is sound. -/
theorem OpR.sound (h : Inv X st a w F ρ) {d : Nat} {op : Op} {v : LV} {eff : List (Nat × Box)} {R : List Nat} (hr : OpR P d (evalO st.ts) st.m op v eff R) {o : Oper} (ho : o.op = op) :
    Sound P X st a w o v eff := by
  cases hr with
  | move =>
    obtain ⟨dst, op, ty, pos, after, guard⟩ := o
    simp only at ho
    subst ho
    exact Sound.val h rfl (h.eval _)
  | assign =>
    obtain ⟨dst, op, ty, pos, after, guard⟩ := o
    simp only at ho
    subst ho
    exact Sound.val h rfl (h.eval _)
  | @pick c x y t ht =>
    obtain ⟨dst, op, ty, pos, after, guard⟩ := o
    simp only at ho
    subst ho
    have hc := h.eval c
    rw [ht] at hc
    refine Sound.val h (val := if t then a.eval x else a.eval y) (by simp [execOp, hc.bool, asBool]) ?_
    cases t
    · exact h.eval y
    · exact h.eval x
  | alloc hz => exact alloc_sound h hz ho
  | box hx h1 => exact box_sound h hx h1 ho
  | build hb hp => exact build_sound h hb hp ho
  | buildSlice ht hz hs hn hb hn0 hp =>
    have := buildSlice_sound h (d := d) ht hz hs hn hb hn0 hp ho
    rwa [genAt_mark] at this
  | load ha hm hg hk he ht hv => exact load_sound h ha hm hg hk he ht hv ho
  | loadA ha hm hg hk he ht hs hc => exact loadA_sound h ha hm hg hk he ht hs hc ho
  | loadF ha he ht hv => exact loadF_sound h ha he ht hv ho
  | loadFA ha he ht hs hc => exact loadFA_sound h ha he ht hs hc ho
  | store ha hm hg hf hk he hs hy hl h1 hc => exact store_sound h ha hm hg hf hk he hs hy hl h1 hc ho
  | storeP ha hm hg hf hk he hs hy hb hl h1 hc => exact storeP_sound h ha hm hg hf hk he hs hy hb hl h1 hc ho
  | @nilCheck x hx =>
    obtain ⟨dst, op, ty, pos, after, guard⟩ := o
    simp only at ho
    subst ho
    obtain ⟨p, hv, hn⟩ := isPtr_sound hx (h.eval x)
    cases p with
    | none => simp at hn
    | some p =>
      refine Sound.val h (nilCheck_ptr hv) ?_
      rw [← hv]
      exact h.eval x
  | @nilCheckR x b g i c y hx hm hg =>
    obtain ⟨dst, op, ty, pos, after, guard⟩ := o
    simp only at ho
    subst ho
    have hv := h.eval x
    rw [hx] at hv
    obtain ⟨-, l, -, hv2⟩ := hv.toRef hm hg
    refine Sound.val h (nilCheck_ptr hv2) ?_
    rw [← hv2]
    exact h.eval x
  | @nilEq t u e x y b g i c z hx hm hg hy ht =>
    obtain ⟨dst, op, ty, pos, after, guard⟩ := o
    simp only at ho
    subst ho
    have hv := h.eval x
    rw [hx] at hv
    obtain ⟨-, l, -, hv2⟩ := hv.toRef hm hg
    have hyv := h.eval y
    rw [hy] at hyv
    have hu' : P.underlying t = some (.pointer (P.pointee t)) := by rw [ht]; simp [Program.pointee, ht]
    refine Sound.val h (val := .bool false) ?_ (.mk_bool _)
    simp [execOp, hv2, hyv.nilp, eqGuard, run_eql_pointer_nil w t _ hu']
  | @nilNe t u e x y b g i c z hx hm hg hy ht =>
    obtain ⟨dst, op, ty, pos, after, guard⟩ := o
    simp only at ho
    subst ho
    have hv := h.eval x
    rw [hx] at hv
    obtain ⟨-, l, -, hv2⟩ := hv.toRef hm hg
    have hyv := h.eval y
    rw [hy] at hyv
    have hu' : P.underlying t = some (.pointer (P.pointee t)) := by rw [ht]; simp [Program.pointee, ht]
    refine Sound.val h (val := .bool true) ?_ (.mk_bool _)
    simp [execOp, hv2, hyv.nilp, eqGuard, run_neq_pointer_nil w t _ hu']
  | @nilCheckF x f cs hx =>
    obtain ⟨dst, op, ty, pos, after, guard⟩ := o
    simp only at ho
    subst ho
    have hv := h.eval x
    obtain ⟨vs, hfv, -⟩ := (hx ▸ hv : RelL w F ρ st.m (a.eval x) (.fn f cs)).toFn
    refine Sound.val h (val := a.eval x) ?_ hv
    simp [execOp, hfv]
  | @bin op t u x y v hb =>
    obtain ⟨dst, op', ty, pos, after, guard⟩ := o
    simp only at ho
    subst ho
    obtain ⟨val, h1, h2⟩ := binL_sound (P := P) (h.eval x) (h.eval y) hb x y
    refine Sound.val h (val := val) ?_ h2
    simp only [Sem.run_bind] at h1
    simp only [execOp, Sem.run_bind, h1, Result.andThen_ok]
    rfl
  | @un op t x v hu =>
    obtain ⟨dst, op', ty, pos, after, guard⟩ := o
    simp only at ho
    subst ho
    obtain ⟨val, h1, h2⟩ := unL_sound (P := P) (h.eval x) hu
    refine Sound.val h (val := val) ?_ h2
    simp only [execOp, Sem.run_bind, h1, Result.andThen_ok]
    rfl
  | @conv s t x v hc hs =>
    obtain ⟨dst, op', ty, pos, after, guard⟩ := o
    simp only at ho
    subst ho
    obtain ⟨val, h1, h2⟩ := convL_sound (P := P) (h.eval x) hs hc
    refine Sound.val h (val := val) ?_ h2
    simp only [execOp, Sem.run_bind, h1, Result.andThen_ok]
    rfl
  | fieldAddr hx hm hg hof => exact fieldAddr_sound h hx hm hg hof ho
  | fieldAddrF hx hof => exact fieldAddrF_sound h hx hof ho
  | indexAddr hx hi hm hg hk ht hs h0 h1 => exact indexAddr_sound h hx hi hm hg ht hs h0 h1 ho
  | indexAddrF hx hi ht hs h0 h1 hz => exact indexAddrF_sound h hx hi ht hs h0 h1 hz ho
  | indexAddrA hx hi hm hg ht hs h0 h1 => exact indexAddrA_sound h hx hi hm hg ht hs h0 h1 ho
  | indexAddrFA hx hi ht hs h0 h1 => exact indexAddrFA_sound h hx hi ht hs h0 h1 ho
  | @field t x f o' cs fs fd v hx ht hf hof ha hv =>
    obtain ⟨dst, op', ty, pos, after, guard⟩ := o
    simp only at ho
    subst ho hof
    have hxv := h.eval x
    rw [hx] at hxv
    obtain ⟨vs, hxv, hn, hr⟩ := hxv.cells
    have hlt : fd.offset < vs.size := by rw [hn]; exact (List.getElem?_eq_some_iff.1 hv).1
    refine Sound.val h (val := vs[fd.offset]) ?_ (hr _ _ v (Array.getElem?_eq_getElem hlt) hv)
    simp [execOp, Instr.field, run_underlying ht, hf, hxv, asAgg, part_one (P := P) (w := w) ha (Array.getElem?_eq_getElem hlt)]
  | @fieldA t x f o' n cs fs fd hx ht hf hof ha hs hc =>
    obtain ⟨dst, op', ty, pos, after, guard⟩ := o
    simp only at ho
    subst ho hof
    have hxv := h.eval x
    rw [hx] at hxv
    obtain ⟨vs, hxv, hn, hr⟩ := hxv.cells
    refine Sound.val h (val := .agg (vs.extract fd.offset (fd.offset + n))) ?_ (.agg (by simp; omega) fun j u q hu hq => ?_)
    · simp [execOp, Instr.field, run_underlying ht, hf, hxv, asAgg, part, isAgg_run ha, run_sizeT hs]
    · obtain ⟨hj, hq⟩ := drop_take_get hq
      rw [Array.getElem?_extract, if_pos (by omega)] at hu
      exact hr _ _ q hu hq
  | @indexS t x ix k n s hx hi ht h0 h1 =>
    obtain ⟨dst, op', ty, pos, after, guard⟩ := o
    simp only at ho
    subst ho
    have hxv := h.eval x
    rw [hx] at hxv
    have hiv := h.eval ix
    rw [hi] at hiv
    refine Sound.val h (val := .int .u8 ((s[n.toNat]'h1).toNat : Int)) ?_ (.mk_int _ _)
    simp [execOp, Instr.index, hxv.str, hiv.int, asIntOf, run_underlying ht, h0, h1]
  | slice hx hm hg hk ht hs hl hh h1 h2 h3 => exact slice_sound h hx hm hg ht hs hl hh h1 h2 h3 ho
  | slice3 hx hm hg hk ht hs hl hhs hh hc h1 h2 h3 h4 => exact slice3_sound h hx hm hg ht hs hl hhs hh hc h1 h2 h3 h4 ho
  | sliceF hx ht hs hz hl hh h1 h2 => exact sliceF_sound h hx ht hs hz hl hh h1 h2 ho
  | sliceN hx ht hs hl hh h1 h2 => exact sliceN_sound h hx ht hs hl hh h1 h2 ho
  | sliceS hx ht hl hh h1 h2 => exact sliceS_sound h hx ht hl hh h1 h2 ho
  | makeSlice ht hz hs hzl hn hc h0 h1 h2 hb => exact makeSlice_sound h ht hz hs hzl hn hc h0 h1 h2 hb ho
  | makeMap => exact makeMap_sound h ho
  | lookup hx hm hg hk ht hkt hz hf => exact lookup_sound h hx hm hg ht hkt hz hf ho
  | mapUpdate hx hm hg hk hf ht hkt hkp hfd hp => exact mapUpdate_sound h hx hm hg hf ht hkt hkp hfd hp ho
  | @extract x i vs v hx hv =>
    obtain ⟨dst, op', ty, pos, after, guard⟩ := o
    simp only at ho
    subst ho
    have hxv := h.eval x
    rw [hx] at hxv
    obtain ⟨us, hxv, hn, hr⟩ := hxv.tupcells
    have hlt : i < us.size := by rw [hn]; exact (List.getElem?_eq_some_iff.1 hv).1
    refine Sound.val h (val := us[i]) ?_ (hr _ _ v (Array.getElem?_eq_getElem hlt) hv)
    simp [execOp, Instr.extract, hxv, Array.getElem?_eq_getElem hlt]
  | @makeFunc f cap =>
    obtain ⟨dst, op', ty, pos, after, guard⟩ := o
    simp only at ho
    subst ho
    refine Sound.val h (val := .func (.func f) #[] (cap.map a.eval)) (by simp [execOp, Instr.makeFunc]) (.fn (by simp) fun i u l hu hl => ?_)
    exact evals_rel h cap.toList i u l (by simpa using hu) hl
  | len hx hlive ht => exact len_sound h hx hlive.live ht ho
  | @lenM x t kt et b g y hx hm hg hk ht =>
    obtain ⟨dst, op', ty, pos, after, guard⟩ := o
    simp only at ho
    subst ho
    obtain ⟨l, ents, clock, hl, hv, hheap, hen⟩ := mapAt h hx hm hg
    refine Sound.val h (val := .int .i64 y.es.length) (call_run (fun _ => rfl) ?_) (.mk_int _ _)
    have hn := hen.fn.1
    simp at hn
    simp [Builtin.len_, hv, run_underlying ht, run_getMap hheap, goInt, hn]
  | max hv => exact max_sound h hv ho
  | min hv => exact min_sound h hv ho
  | appendN hx ht hu hz hs hzl hy h0 hone h1 hb => subst hu; exact appendN_sound h hx ht hz hs hy h0 h1 hb ho
  | append0 hx hxs ht hu hsz hy hys hlx hly => subst hu; exact append0_sound h hx hxs ht hsz hy hys hlx.live hly.live ho
  | append hx hm hg hf hk hend ht hu hz hs hzs hzl hy hyb h0 hone h1 hb => subst hu; exact append_sound h hx hm hg hf hk hend ht hz hs hzs hy h0 hone h1 hb ho
  | appendC hx hm hg hk hl ht hu hz hs hzs hzl hy h0 hgr h1 hb => subst hu; exact appendC_sound h hx hm hg hk hl ht hz hs hzs hy h0 hgr h1 hb ho
end
end Go.Proofs.Ytpepcfombibpeaa.Mv
