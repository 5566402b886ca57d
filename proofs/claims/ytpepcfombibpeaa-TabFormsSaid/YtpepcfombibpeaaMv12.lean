/- Taking in what was handed over is sound. -/
import Derived.Test.YtpepcfombibpeaaMv11
set_option linter.unusedVariables false
set_option linter.unusedSimpArgs false
namespace Go.Proofs.Ytpepcfombibpeaa.Mv

section
variable {P : Program} {X : Ctx} {a : Act} {w : World} {F : Nat → Prop}

/-- Blocks that may become boxes'. -/
def FreeB (X : Ctx) (st : St) (w : World) (F : Nat → Prop) (ρ : Locs) (O : List Nat) : Prop :=
  ∀ b ∈ O, b < w.heap.size ∧ ¬ F b ∧ (b ∈ X.O0 ∨ X.w0.heap.size ≤ b) ∧ ∀ k x l, st.m k = some x → x.frz = false → ρ k = some l → l.blk ≠ b

/-- A step that takes in blocks. -/
structure Took (X : Ctx) (st st' : St) (w : World) (F : Nat → Prop) (ρ ρ' : Locs) (O : List Nat) (lo hi : Nat) : Prop where
  compat : Compat st.m ρ st'.m ρ'
  same : ∀ k, k < lo ∨ hi ≤ k → st'.m k = st.m k
  own : ∀ k x l, st'.m k = some x → x.frz = false → ρ' k = some l → (st.m k = some x ∧ ρ k = some l) ∨ l.blk ∈ O
  ts : st'.ts = st.ts
theorem Took.refl (st : St) (ρ : Locs) (n : Nat) : Took X st st w F ρ ρ [] n n :=
  ⟨fun _ x hx => ⟨x, hx, .inl ⟨rfl, rfl, rfl, .inr rfl, rfl⟩⟩, fun _ _ => rfl, fun _ _ _ h1 _ h2 => .inl ⟨h1, h2⟩, rfl⟩
theorem Compat.trans {m m1 m2 : Mem} {ρ ρ1 ρ2 : Locs} (h : Compat m ρ m1 ρ1) (h' : Compat m1 ρ1 m2 ρ2) : Compat m ρ m2 ρ2 := by
  intro b x hx
  obtain ⟨x1, hx1, h1⟩ := h b x hx
  obtain ⟨x2, hx2, h2⟩ := h' b x1 hx1
  refine ⟨x2, hx2, ?_⟩
  rcases h1 with ⟨a1, a2, a3, a4, a5⟩ | h1
  · rcases h2 with ⟨b1, b2, b3, b4, b5⟩ | h2
    · refine .inl ⟨b1.trans a1, b2.trans a2, b3.trans a3, ?_, b5.trans a5⟩
      rcases a4 with a4 | a4
      · exact .inl a4
      · rcases b4 with b4 | b4
        · exact .inl (a5 ▸ b4)
        · exact .inr (b4.trans a4)
    · exact .inr (by omega)
  · rcases h2 with ⟨b1, -⟩ | h2
    · exact .inr (by omega)
    · exact .inr (by omega)
theorem Took.trans {st st1 st2 : St} {ρ ρ1 ρ2 : Locs} {O O' : List Nat} {n n1 n2 : Nat} (h : Took X st st1 w F ρ ρ1 O n n1) (h' : Took X st1 st2 w F ρ1 ρ2 O' n1 n2) (hn : n ≤ n1) (hn' : n1 ≤ n2) : Took X st st2 w F ρ ρ2 (O ++ O') n n2 := by
  refine ⟨h.compat.trans h'.compat, fun k hk => (h'.same k (by omega)).trans (h.same k (by omega)), fun k x l h1 h2 h3 => ?_, h'.ts.trans h.ts⟩
  rcases h'.own k x l h1 h2 h3 with ⟨g1, g2⟩ | g
  · rcases h.own k x l g1 h2 g2 with g3 | g3
    · exact .inl g3
    · exact .inr (List.mem_append_left _ g3)
  · exact .inr (List.mem_append_right _ g)
theorem FreeB.next {st st1 : St} {ρ ρ1 : Locs} {O O' : List Nat} {n n1 : Nat} (h : FreeB X st w F ρ O') (ht : Took X st st1 w F ρ ρ1 O n n1) (hd : ∀ b ∈ O, b ∉ O') : FreeB X st1 w F ρ1 O' := by
  intro b hb
  obtain ⟨h1, h2, h3, h4⟩ := h b hb
  refine ⟨h1, h2, h3, fun k x l g1 g2 g3 => ?_⟩
  rcases ht.own k x l g1 g2 g3 with ⟨g4, g5⟩ | g4
  · exact h4 k x l g4 g2 g5
  · exact fun he => hd _ g4 (he ▸ hb)

def updRo (f : Locs) (i : Nat) (o : Option Loc) : Locs := fun j => cond (Nat.beq i j) o (f j)
theorem updRo_same (f : Locs) (i : Nat) (o : Option Loc) : updRo f i o i = o := by simp [updRo]
theorem updRo_ne (f : Locs) {i j : Nat} (o : Option Loc) (h : i ≠ j) : updRo f i o j = f j := by
  have : Nat.beq i j = false := by
    cases h' : Nat.beq i j
    · rfl
    · exact absurd (Nat.eq_of_beq_eq_true h') h
  simp [updRo, this]

theorem took_new {st : St} {ρ ρ' : Locs} {n : Nat} {x' : Box} {O : List Nat} (hρ : ∀ k, k ≠ n → ρ' k = ρ k) (hc : Compat st.m ρ (updM st.m n x') ρ') (ho : ∀ l, ρ' n = some l → l.blk ∈ O) :
    Took X st ⟨st.ts, updM st.m n x'⟩ w F ρ ρ' O n (n + 1) := by
  refine ⟨hc, fun k hk => updM_ne _ _ (by omega), fun k x l h1 h2 h3 => ?_, rfl⟩
  by_cases hk : k = n
  · subst hk
    exact .inr (ho l h3)
  · rw [hρ k hk] at h3
    have h1 : st.m k = some x := by rw [← h1]; exact (updM_ne _ _ (Ne.symm hk)).symm
    exact .inl ⟨h1, h3⟩

def cellI : LV → Bool
  | .agg _ => false
  | .tup _ => false
  | .ptro _ => false
  | _ => true
def valI : LV → Bool
  | .agg cs => cs.all cellI
  | l => cellI l
def topI : LV → Bool
  | .tup vs => vs.all valI
  | .ptro cs => cs.all cellI
  | l => valI l

theorem impC_sound {st : St} {ρ : Locs} (h : Inv X st a w F ρ) {v : Value} {l : LV} {O : List Nat} (hr : RelI w F v l O) (hO : FreeB X st w F ρ O) (hcl : cellI l = true) (n : Nat) :
    ∃ ρ', Inv X ⟨st.ts, effM st.m (impC st.m n l).2.1⟩ a w F ρ' ∧ RelL w F ρ' (effM st.m (impC st.m n l).2.1) v (impC st.m n l).1 ∧
      Took X st ⟨st.ts, effM st.m (impC st.m n l).2.1⟩ w F ρ ρ' O n (impC st.m n l).2.2 ∧ n ≤ (impC st.m n l).2.2 := by
  cases hr with
  | frz hf =>
    have hi : impC st.m n l = (l, [], n) := by
      cases l <;> first | rfl | cases hf
    rw [hi]
    exact ⟨ρ, h, .frz hf, Took.refl st ρ n, Nat.le_refl _⟩
  | @slo0 a0 sz =>
    obtain ⟨k1, k2⟩ := h.adopt (n := n) (x' := ⟨genAt st.m n, false, .slc, sz, []⟩) (ρ' := updRo ρ n none) (fun k hk => updRo_ne _ _ (Ne.symm hk)) rfl rfl (fun l hl => by rw [updRo_same] at hl; cases hl)
      fun _ => BoxOK.of_cells (by simp) (by rw [updRo_same]; rfl)
    refine ⟨updRo ρ n none, k1, .own rfl (updM_same _ _ _) (Nat.le_refl _) fun _ => ⟨rfl, by simp, by rw [updRo_same]; exact ⟨a0, rfl⟩⟩, took_new (fun k hk => updRo_ne _ _ (Ne.symm hk)) k2 (fun l hl => by rw [updRo_same] at hl; cases hl), by simp [impC]⟩
  | @slo blk off len cap sz es cs t hl hc hb hf hsz hcell =>
    obtain ⟨f1, f2, f3, f4⟩ := hO blk (by simp)
    obtain ⟨k1, k2⟩ := h.adopt (n := n) (x' := ⟨genAt st.m n, false, .slc, sz, es⟩) (ρ' := updRo ρ n (some ⟨blk, off, cap⟩)) (fun k hk => updRo_ne _ _ (Ne.symm hk)) rfl rfl
      (fun l hl => by
        rw [updRo_same] at hl
        injection hl with hl
        subst hl
        exact ⟨f1, f2, f3, fun k x l' g1 g2 _ g3 => f4 k x l' g1 g2 g3⟩)
      fun _ => BoxOK.of_cells (by simp) (by rw [updRo_same]; exact ⟨cs, t, hb, hf, by simp only; omega, hsz, fun i e c q he hq => hcell i e c q he hq⟩)
    refine ⟨_, k1, .own rfl (updM_same _ _ _) (Nat.le_refl _) fun _ => ⟨rfl, by simp, by rw [updRo_same]; exact ⟨_, cap, by rw [hl], fun _ => by simp, by omega, by simp⟩⟩, took_new (fun k hk => updRo_ne _ _ (Ne.symm hk)) k2 (fun l hl => by
      rw [updRo_same] at hl
      injection hl with hl
      subst hl
      simp), by simp [impC]⟩
  | aggn => simp [cellI] at hcl
  | aggc => simp [cellI] at hcl
  | tup => simp [cellI] at hcl
  | ptro => simp [cellI] at hcl

theorem genAt_congr {m m' : Mem} {n : Nat} (h : m' n = m n) : genAt m' n = genAt m n := by simp [genAt, h]
theorem impC_congr {m m' : Mem} {n : Nat} (h : ∀ k, n ≤ k → m' k = m k) (l : LV) : impC m' n l = impC m n l := by
  cases l <;> first | rfl | (simp [impC, genAt_congr (h n (Nat.le_refl n))])
theorem impC_le (m : Mem) (n : Nat) (l : LV) : n ≤ (impC m n l).2.2 := by
  cases l <;> simp [impC]
theorem impCs_congr {m m' : Mem} : ∀ (ls : List LV) {n : Nat}, (∀ k, n ≤ k → m' k = m k) → impCs m' n ls = impCs m n ls
  | [], n, _ => rfl
  | l :: ls, n, h => by
    have h1 := impC_congr h l
    have h2 := impCs_congr (m := m) (m' := m') ls (n := (impC m n l).2.2) (fun k hk => h k (Nat.le_trans (impC_le m n l) hk))
    simp only [impCs, h1, h2]
theorem impCs_le (m : Mem) : ∀ (ls : List LV) (n : Nat), n ≤ (impCs m n ls).2.2
  | [], n => Nat.le_refl _
  | l :: ls, n => Nat.le_trans (impC_le m n l) (impCs_le m ls _)

/-- An aggregate that is handed over, cell by cell. -/
theorem RelI.uncons {v : Value} {l : LV} {ls : List LV} {O : List Nat} (h : RelI w F v (.agg (l :: ls)) O) : ∃ u us O1 O2, v = .agg ⟨u :: us⟩ ∧ O = O1 ++ O2 ∧ RelI w F u l O1 ∧ RelI w F (.agg ⟨us⟩) (.agg ls) O2 := by
  cases h with
  | frz h =>
    obtain ⟨cs, rfl, hn, hr⟩ := h.cells
    obtain ⟨cs⟩ := cs
    cases cs with
    | nil => simp at hn
    | cons u us =>
      exact ⟨u, us, [], [], rfl, rfl, .frz (hr 0 u l rfl rfl), .frz (.agg (by simpa using hn) fun i a q ha hq => hr (i + 1) a q (by simpa using ha) (by simpa using hq))⟩
  | aggc h1 h2 => exact ⟨_, _, _, _, rfl, rfl, h1, h2⟩
theorem RelI.nil {v : Value} {O : List Nat} (h : RelI w F v (.agg []) O) : v = .agg #[] ∧ O = [] := by
  cases h with
  | frz h =>
    obtain ⟨cs, rfl, hn, hr⟩ := h.cells
    have : cs = #[] := by simpa using hn
    exact ⟨by rw [this], rfl⟩
  | aggn => exact ⟨rfl, rfl⟩

theorem RelL.consAgg {ρ : Locs} {m : Mem} {u : Value} {us : List Value} {l : LV} {ls : List LV} (h : RelL w F ρ m u l) (hs : RelL w F ρ m (.agg ⟨us⟩) (.agg ls)) : RelL w F ρ m (.agg ⟨u :: us⟩) (.agg (l :: ls)) := by
  obtain ⟨cs, h1, hn, hr⟩ := hs.cells
  injection h1 with h1
  subst h1
  refine .agg (by simpa using hn) fun i v q hv hq => ?_
  cases i with
  | zero =>
    simp at hv hq
    subst hv hq
    exact h
  | succ i => exact hr i v q (by simpa using hv) (by simpa using hq)

theorem impCs_sound : ∀ (ls : List LV) {st : St} {ρ : Locs}, Inv X st a w F ρ → ∀ {us : List Value} {O : List Nat}, RelI w F (.agg ⟨us⟩) (.agg ls) O → FreeB X st w F ρ O → O.Nodup → ls.all cellI = true → ∀ (n : Nat),
    ∃ ρ', Inv X ⟨st.ts, effM st.m (impCs st.m n ls).2.1⟩ a w F ρ' ∧ RelL w F ρ' (effM st.m (impCs st.m n ls).2.1) (.agg ⟨us⟩) (.agg (impCs st.m n ls).1) ∧
      Took X st ⟨st.ts, effM st.m (impCs st.m n ls).2.1⟩ w F ρ ρ' O n (impCs st.m n ls).2.2 := by
  intro ls
  induction ls with
  | nil =>
    intro st ρ h us O hr hO hnd hc n
    obtain ⟨h1, rfl⟩ := hr.nil
    injection h1 with h1
    rw [h1]
    exact ⟨ρ, h, .agg rfl (by simp [impCs]), Took.refl st ρ n⟩
  | cons l ls ih =>
    intro st ρ h us O hr hO hnd hc n
    simp only [List.all_cons, Bool.and_eq_true] at hc
    obtain ⟨u, us', O1, O2, h1, rfl, hr1, hr2⟩ := hr.uncons
    injection h1 with h1
    injection h1 with h1
    subst h1
    obtain ⟨n1, n2, n3⟩ := nodup_append hnd
    obtain ⟨ρ1, k1, k2, k3, k4⟩ := impC_sound h hr1 (fun b hb => hO b (List.mem_append_left _ hb)) hc.1 n
    have hfree2 : FreeB X ⟨st.ts, effM st.m (impC st.m n l).2.1⟩ w F ρ1 O2 := FreeB.next (fun b hb => hO b (List.mem_append_right _ hb)) k3 n3
    obtain ⟨ρ2, q1, q2, q3⟩ := ih k1 hr2 hfree2 n2 hc.2 (impC st.m n l).2.2
    have hcg : impCs (effM st.m (impC st.m n l).2.1) (impC st.m n l).2.2 ls = impCs st.m (impC st.m n l).2.2 ls := impCs_congr ls fun k hk => k3.same k (.inr hk)
    simp only [hcg] at q1 q2 q3
    have heff : effM st.m (impCs st.m n (l :: ls)).2.1 = effM (effM st.m (impC st.m n l).2.1) (impCs st.m (impC st.m n l).2.2 ls).2.1 := by simp only [impCs, effM_append]
    rw [heff]
    refine ⟨ρ2, q1, ?_, Took.trans k3 q3 k4 (impCs_le _ _ _)⟩
    exact RelL.consAgg (k2.mono (fun _ h => h) (fun _ _ => rfl) q3.compat) q2

theorem impV_sound {st : St} {ρ : Locs} (h : Inv X st a w F ρ) {v : Value} {l : LV} {O : List Nat} (hr : RelI w F v l O) (hO : FreeB X st w F ρ O) (hnd : O.Nodup) (hc : valI l = true) (n : Nat) :
    ∃ ρ', Inv X ⟨st.ts, effM st.m (impV st.m n l).2.1⟩ a w F ρ' ∧ RelL w F ρ' (effM st.m (impV st.m n l).2.1) v (impV st.m n l).1 ∧
      Took X st ⟨st.ts, effM st.m (impV st.m n l).2.1⟩ w F ρ ρ' O n (impV st.m n l).2.2 ∧ n ≤ (impV st.m n l).2.2 := by
  by_cases ha : ∃ cs, l = .agg cs
  · obtain ⟨cs, rfl⟩ := ha
    obtain ⟨vs, rfl⟩ : ∃ vs, v = .agg vs := by
      cases hr with
      | frz hf => obtain ⟨vs, rfl, -⟩ := hf.cells; exact ⟨vs, rfl⟩
      | aggn => exact ⟨_, rfl⟩
      | aggc => exact ⟨_, rfl⟩
    obtain ⟨ρ', k1, k2, k3⟩ := impCs_sound cs h (us := vs.toList) hr hO hnd hc n
    exact ⟨ρ', k1, k2, k3, impCs_le _ _ _⟩
  · have hi : impV st.m n l = impC st.m n l := by
      cases l <;> first | rfl | exact absurd ⟨_, rfl⟩ ha
    have hcl : cellI l = true := by
      cases l <;> first | exact hc | exact absurd ⟨_, rfl⟩ ha
    rw [hi]
    exact impC_sound h hr hO hcl n
theorem impV_congr {m m' : Mem} {n : Nat} (h : ∀ k, n ≤ k → m' k = m k) (l : LV) : impV m' n l = impV m n l := by
  by_cases ha : ∃ cs, l = .agg cs
  · obtain ⟨cs, rfl⟩ := ha
    simp only [impV, impCs_congr cs h]
  · have hi : ∀ m, impV m n l = impC m n l := by
      intro m
      cases l <;> first | rfl | exact absurd ⟨_, rfl⟩ ha
    rw [hi, hi]
    exact impC_congr h l
theorem impV_le (m : Mem) (n : Nat) (l : LV) : n ≤ (impV m n l).2.2 := by
  by_cases ha : ∃ cs, l = .agg cs
  · obtain ⟨cs, rfl⟩ := ha
    exact impCs_le m cs n
  · have hi : impV m n l = impC m n l := by
      cases l <;> first | rfl | exact absurd ⟨_, rfl⟩ ha
    rw [hi]
    exact impC_le m n l
theorem impVs_congr {m m' : Mem} : ∀ (ls : List LV) {n : Nat}, (∀ k, n ≤ k → m' k = m k) → impVs m' n ls = impVs m n ls
  | [], n, _ => rfl
  | l :: ls, n, h => by
    have h1 := impV_congr h l
    have h2 := impVs_congr (m := m) (m' := m') ls (n := (impV m n l).2.2) (fun k hk => h k (Nat.le_trans (impV_le m n l) hk))
    simp only [impVs, h1, h2]
theorem impVs_le (m : Mem) : ∀ (ls : List LV) (n : Nat), n ≤ (impVs m n ls).2.2
  | [], n => Nat.le_refl _
  | l :: ls, n => Nat.le_trans (impV_le m n l) (impVs_le m ls _)
theorem impVs_sound : ∀ (ls : List LV) {st : St} {ρ : Locs}, Inv X st a w F ρ → ∀ {us : List Value} {O : List Nat}, RelI w F (.agg ⟨us⟩) (.agg ls) O → FreeB X st w F ρ O → O.Nodup → ls.all valI = true → ∀ (n : Nat),
    ∃ ρ', Inv X ⟨st.ts, effM st.m (impVs st.m n ls).2.1⟩ a w F ρ' ∧ RelL w F ρ' (effM st.m (impVs st.m n ls).2.1) (.agg ⟨us⟩) (.agg (impVs st.m n ls).1) ∧
      Took X st ⟨st.ts, effM st.m (impVs st.m n ls).2.1⟩ w F ρ ρ' O n (impVs st.m n ls).2.2 := by
  intro ls
  induction ls with
  | nil =>
    intro st ρ h us O hr hO hnd hc n
    obtain ⟨h1, rfl⟩ := hr.nil
    injection h1 with h1
    rw [h1]
    exact ⟨ρ, h, .agg rfl (by simp [impVs]), Took.refl st ρ n⟩
  | cons l ls ih =>
    intro st ρ h us O hr hO hnd hc n
    simp only [List.all_cons, Bool.and_eq_true] at hc
    obtain ⟨u, us', O1, O2, h1, rfl, hr1, hr2⟩ := hr.uncons
    injection h1 with h1
    injection h1 with h1
    subst h1
    obtain ⟨n1, n2, n3⟩ := nodup_append hnd
    obtain ⟨ρ1, k1, k2, k3, k4⟩ := impV_sound h hr1 (fun b hb => hO b (List.mem_append_left _ hb)) n1 hc.1 n
    have hfree2 : FreeB X ⟨st.ts, effM st.m (impV st.m n l).2.1⟩ w F ρ1 O2 := FreeB.next (fun b hb => hO b (List.mem_append_right _ hb)) k3 n3
    obtain ⟨ρ2, q1, q2, q3⟩ := ih k1 hr2 hfree2 n2 hc.2 (impV st.m n l).2.2
    have hcg : impVs (effM st.m (impV st.m n l).2.1) (impV st.m n l).2.2 ls = impVs st.m (impV st.m n l).2.2 ls := impVs_congr ls fun k hk => k3.same k (.inr hk)
    simp only [hcg] at q1 q2 q3
    have heff : effM st.m (impVs st.m n (l :: ls)).2.1 = effM (effM st.m (impV st.m n l).2.1) (impVs st.m (impV st.m n l).2.2 ls).2.1 := by simp only [impVs, effM_append]
    rw [heff]
    refine ⟨ρ2, q1, ?_, Took.trans k3 q3 k4 (impVs_le _ _ _)⟩
    exact RelL.consAgg (k2.mono (fun _ h => h) (fun _ _ => rfl) q3.compat) q2

/-- A result is taken in. -/
theorem impT_sound {st : St} {ρ : Locs} (h : Inv X st a w F ρ) {v : Value} {l : LV} {O : List Nat} (hr : RelI w F v l O) (hO : FreeB X st w F ρ O) (hnd : O.Nodup) (hc : topI l = true) (d : Nat) :
    ∃ ρ', Inv X ⟨st.ts, effM st.m (impT st.m d l).2⟩ a w F ρ' ∧ RelL w F ρ' (effM st.m (impT st.m d l).2) v (impT st.m d l).1 := by
  by_cases ht : ∃ vs, l = .tup vs
  · obtain ⟨vs, rfl⟩ := ht
    obtain ⟨cs, rfl, hr'⟩ : ∃ cs : Array Value, v = .tuple cs ∧ RelI w F (.agg cs) (.agg vs) O := by
      cases hr with
      | frz hf => cases hf with | tup hn h => exact ⟨_, rfl, .frz (.agg hn h)⟩
      | tup h => exact ⟨_, rfl, h⟩
    obtain ⟨ρ', k1, k2, -⟩ := impVs_sound vs h (us := cs.toList) hr' hO hnd hc d
    obtain ⟨cs2, h3, h4, h5⟩ := k2.cells
    injection h3 with h3
    subst h3
    exact ⟨ρ', k1, .tup h4 h5⟩
  · by_cases hp : ∃ cs, l = .ptro cs
    · obtain ⟨cs, rfl⟩ := hp
      cases hr with
      | frz hf => cases hf
      | @ptro blk off cs0 t _ O' hb hf h1 =>
        obtain ⟨n1, n2⟩ := List.nodup_cons.1 hnd
        obtain ⟨ρ1, k1, k2, k3⟩ := impCs_sound cs h (us := (cs0.extract off (off + cs.length)).toList) h1 (fun b hb => hO b (List.mem_cons_of_mem _ hb)) n2 hc (d + 1)
        obtain ⟨f1, f2, f3, f4⟩ := FreeB.next (X := X) (O' := [blk]) (fun b hb => hO b (by simp at hb; simp [hb])) k3 (fun b e1 e2 => by simp at e2; subst e2; exact n1 e1) blk (by simp)
        have hgen : genAt (effM st.m (impCs st.m (d + 1) cs).2.1) d = genAt st.m d := genAt_congr (k3.same d (.inl (Nat.lt_succ_self d)))
        obtain ⟨vs, g1, g2, g3⟩ := k2.cells
        have hlen : (impCs st.m (d + 1) cs).1.length = cs.length := by
          injection g1 with g1
          rw [← g2, ← g1]
          simp
          omega
        obtain ⟨q1, q2⟩ := k1.adopt (n := d) (x' := ⟨genAt st.m d, false, .var, cs.length, [(impCs st.m (d + 1) cs).1]⟩) (ρ' := updRo ρ1 d (some ⟨blk, off, 1⟩)) (fun k hk => updRo_ne _ _ (Ne.symm hk)) rfl hgen.symm
          (fun l hl => by
            rw [updRo_same] at hl
            injection hl with hl
            subst hl
            exact ⟨f1, f2, f3, fun k x l' e1 e2 _ e3 => f4 k x l' e1 e2 e3⟩)
          fun hcm => BoxOK.of_cells (by simp) (by
            rw [updRo_same]
            refine ⟨cs0, t, hb, by simpa using hf, by simp, by simpa using hlen, fun i e c q he hq => ?_⟩
            have hi : i = 0 := by have := (List.getElem?_eq_some_iff.1 he).1; simp at this; omega
            subst hi
            simp only [List.getElem?_cons_zero, Option.some.injEq] at he
            subst he
            have hcl : c < cs.length := by have := (List.getElem?_eq_some_iff.1 hq).1; omega
            have hcx : (cs0.extract off (off + cs.length))[c]? = some (cs0[off + c]'(by omega)) := by
              rw [Array.getElem?_extract, if_pos (by omega)]
              exact Array.getElem?_eq_getElem _
            refine ⟨cs0[off + c]'(by omega), by simp only [Nat.zero_mul, Nat.zero_add]; exact Array.getElem?_eq_getElem _, ?_⟩
            injection g1 with g1
            have hg : vs[c]? = some (cs0[off + c]'(by omega)) := by rw [← hcx, ← g1]
            exact (g3 c _ q hg hq).mono (fun _ h => h) (fun _ _ => rfl) hcm)
        refine ⟨_, by simp only [impT, effM_append]; exact q1, ?_⟩
        simp only [impT, effM_append]
        exact .ref rfl (updM_same _ _ _) (Nat.le_refl _) fun _ => ⟨by simp, _, updRo_same _ _ _, by simp⟩
    · have hi : impT st.m d l = ((impV st.m d l).1, (impV st.m d l).2.1) := by
        cases l <;> first | rfl | exact absurd ⟨_, rfl⟩ ht | exact absurd ⟨_, rfl⟩ hp
      have hv : valI l = true := by
        cases l <;> first | exact hc | exact absurd ⟨_, rfl⟩ ht | exact absurd ⟨_, rfl⟩ hp
      obtain ⟨ρ', k1, k2, -⟩ := impV_sound h hr hO hnd hv d
      rw [hi]
      exact ⟨ρ', k1, k2⟩
end
end Go.Proofs.Ytpepcfombibpeaa.Mv
