/- Freezing and the plain operations are sound. -/
import Derived.Test.YtpepcfombibpeaaMv2
import Derived.Laws.CopyRow
import Derived.Laws.AppendOwn
import Derived.Laws.Append
import Derived.ChangeKeysEq
set_option linter.unusedVariables false
set_option linter.unusedSimpArgs false
namespace Go.Proofs.Ytpepcfombibpeaa.Mv

/-- The blocks of F, and those of some boxes. -/
def FT (F : Nat → Prop) (ρ : Locs) (T : List Nat) : Nat → Prop := fun b => F b ∨ ∃ n ∈ T, ∃ l, ρ n = some l ∧ l.blk = b
theorem FT.mono {F : Nat → Prop} {ρ : Locs} {T : List Nat} : ∀ b, F b → FT F ρ T b := fun _ h => .inl h
theorem FT.sub {F : Nat → Prop} {ρ : Locs} {S T : List Nat} (h : ∀ x ∈ S, x ∈ T) : ∀ b, FT F ρ S b → FT F ρ T b := fun b hb => by
  rcases hb with h1 | ⟨n, hn, l, hl⟩
  · exact .inl h1
  · exact .inr ⟨n, h n hn, l, hl⟩

theorem RelF.of_pure {w : World} {F : Nat → Prop} {ρ : Locs} {m : Mem} {v : Value} {l : LV} (hp : pureL l = true) (h : RelL w F ρ m v l) : RelF w F v l := by
  cases h with
  | frz h => exact h
  | own => simp [pureL] at hp
  | ref => simp [pureL] at hp
  | mref => simp [pureL] at hp
  | agg => simp [pureL] at hp
  | tup => simp [pureL] at hp
  | fn => simp [pureL] at hp

/-- The cells of an aggregate. -/
theorem RelL.cells {w : World} {F : Nat → Prop} {ρ : Locs} {m : Mem} {v : Value} {ls : List LV} (h : RelL w F ρ m v (.agg ls)) :
    ∃ cs : Array Value, v = .agg cs ∧ cs.size = ls.length ∧ ∀ (i : Nat) u l, cs[i]? = some u → ls[i]? = some l → RelL w F ρ m u l := by
  cases h with
  | frz h =>
    cases h with
    | agg hn h => exact ⟨_, rfl, hn, fun i u l hu hl => .frz (h i u l hu hl)⟩
  | agg hn h => exact ⟨_, rfl, hn, h⟩
theorem RelF.cells {w : World} {F : Nat → Prop} {v : Value} {ls : List LV} (h : RelF w F v (.agg ls)) :
    ∃ cs : Array Value, v = .agg cs ∧ cs.size = ls.length ∧ ∀ (i : Nat) u l, cs[i]? = some u → ls[i]? = some l → RelF w F u l := by
  cases h with
  | agg hn h => exact ⟨_, rfl, hn, h⟩

theorem Frz.len {m : Mem} {l l' : LV} {T : List Nat} (h : Frz m l l' T) : ∀ cs, l = .agg cs → ∃ cs', l' = .agg cs' ∧ cs'.length = cs.length := by
  induction h with
  | aggn => intro cs h; cases h; exact ⟨[], rfl, rfl⟩
  | aggc h hs ih1 ih2 =>
    intro cs he
    injection he with he
    subst he
    obtain ⟨cs', h1, h2⟩ := ih2 _ rfl
    injection h1 with h1
    subst h1
    exact ⟨_, rfl, by simp [h2]⟩
  | pure hp => intro cs he; subst he; simp [pureL] at hp
  | nils => intro cs he; cases he
  | nilm => intro cs he; cases he
  | own => intro cs he; cases he
  | mref => intro cs he; cases he
  | ref => intro cs he; cases he
  | fn => intro cs he; cases he

theorem drop_take_get {α : Type} {es : List α} {off len i : Nat} {e : α} (h : ((es.drop off).take len)[i]? = some e) : i < len ∧ es[off + i]? = some e := by
  rw [List.getElem?_take] at h
  split at h
  · rw [List.getElem?_drop] at h
    exact ⟨by assumption, h⟩
  · cases h

theorem Frz.sound {w : World} {F : Nat → Prop} {ρ : Locs} {m : Mem} (hb : ∀ n x, m n = some x → BoxOK w F ρ m n x) {l l' : LV} {T : List Nat} (h : Frz m l l' T) :
    ∀ v, RelL w F ρ m v l → RelF w (FT F ρ T) v l' := by
  induction h with
  | pure hp => exact fun v hv => (RelF.of_pure hp hv).mono FT.mono (fun _ _ => rfl)
  | nils =>
    intro v hv
    cases hv with
    | frz h => cases h; exact .sl (blk := 0) (off := 0) (sz := 0) (fun _ _ => undef) rfl (Nat.le_refl _) (fun h => absurd h (by omega)) (by simp) (by simp) (by simp)
  | nilm =>
    intro v hv
    cases hv with
    | frz h => cases h; exact .fmap0
  | @own b g off len cap x hm hg hk hl =>
    intro v hv
    cases hv with
    | frz h => cases h
    | @own _ _ _ _ _ _ x' _ hm' hg' h =>
      rw [hm] at hm'
      injection hm' with hm'
      subst hm'
      obtain ⟨-, -, h⟩ := h hg
      have hbox := hb b x hm
      unfold BoxOK at hbox
      rw [hk] at hbox
      have hlen : ((x.es.drop off).take len).length = len := by simp; omega
      cases hr : ρ b with
      | none =>
        rw [hr] at h hbox
        obtain ⟨a0, h⟩ := h
        subst h
        have he : x.es = [] := hbox
        have h0 : len = 0 := by rw [he] at hl; simp at hl; omega
        subst h0
        exact .sl (blk := 0) (off := 0) (sz := 0) (fun _ _ => undef) (by simp) (Nat.le_refl _) (fun h => absurd h (by omega)) (by simp) (by simp) (by simp)
      | some lc =>
        rw [hr] at h hbox
        obtain ⟨a, cap', rfl, ha, hlc, -⟩ := h
        obtain ⟨cs, t, h1, h2, h3, h4, h5⟩ := hbox
        rw [hk] at h5
        have key : ∀ (i : Nat) e (c : Nat) q, ((x.es.drop off).take len)[i]? = some e → e[c]? = some q →
            ∃ u, w.cell? ⟨lc.blk, lc.base + off * x.sz + (i * x.sz + c), none⟩ = some u ∧ RelF w F u q := by
          intro i e c q he hq
          obtain ⟨-, he⟩ := drop_take_get he
          obtain ⟨u, hu, hrel⟩ := h5 _ _ _ _ he hq
          refine ⟨u, ?_, hrel⟩
          have : lc.base + off * x.sz + (i * x.sz + c) = lc.base + ((off + i) * x.sz + c) := by rw [Nat.add_mul]; omega
          simp only [World.cell?, h1, this]
          exact hu
        refine .sl (blk := lc.blk) (off := lc.base + off * x.sz) (sz := x.sz) (fun i c => (w.cell? ⟨lc.blk, lc.base + off * x.sz + (i * x.sz + c), none⟩).getD undef) hlen.symm hlc (fun h0 => ⟨ha (by omega), .inr ⟨b, by simp, lc, hr, rfl⟩⟩)
          (fun e he => h4 e (List.mem_of_mem_drop (List.mem_of_mem_take he))) (fun i e c q he hq => ?_) (fun i e c q he hq => ?_)
        · obtain ⟨u, hu, -⟩ := key i e c q he hq
          rw [hu]; rfl
        · obtain ⟨u, hu, hrel⟩ := key i e c q he hq
          rw [hu]
          exact hrel.mono FT.mono (fun _ _ => rfl)
  | @mref b g x hm hg hk =>
    intro v hv
    cases hv with
    | frz h => cases h
    | @mref _ _ _ x' _ hm' hg' h =>
      rw [hm] at hm'
      injection hm' with hm'
      subst hm'
      obtain ⟨-, lc, hr, rfl⟩ := h hg
      have hbox := hb b x hm
      unfold BoxOK at hbox
      rw [hk] at hbox
      obtain ⟨l, ents, clock, h1, h2, hen⟩ := hbox
      obtain ⟨h3, kv, h4, h5, h6⟩ := hen.fn
      rw [hr] at h1
      injection h1 with h1
      subst h1
      exact .fmap kv (.inr ⟨b, by simp, lc, hr, rfl⟩) h2 (by simpa using h3) h4 (fun i e he => (h5 i e (by simpa using he)).mono FT.mono (fun _ _ => rfl)) (fun i e he => (h6 i e (by simpa using he)).mono FT.mono (fun _ _ => rfl))
  | @ref b g c x cs cs' T hm hg hk he hc ih =>
    intro v hv
    cases hv with
    | frz h => cases h
    | @ref _ _ _ _ _ x' _ hm' hg' h =>
      rw [hm] at hm'
      injection hm' with hm'
      subst hm'
      obtain ⟨-, lc, hr, rfl⟩ := h hg
      have hbox := hb b x hm
      unfold BoxOK at hbox
      rw [hk, hr] at hbox
      obtain ⟨cs0, t, h1, h2, h3, h4, h5⟩ := hbox
      rw [he] at h4 h5 h3
      rw [hk] at h5
      have hsz : cs.length = x.sz := h4 cs (by simp)
      have hfit : lc.base + x.sz ≤ cs0.size := by
        simp at h3
        have : 1 * x.sz ≤ lc.ext * x.sz := Nat.mul_le_mul_right _ h3
        omega
      have hrel : RelL w F ρ m (.agg (cs0.extract lc.base (lc.base + x.sz))) (.agg cs) := by
        refine .agg (by simp; omega) fun i u l hu hl => ?_
        have hi : i < cs.length := (List.getElem?_eq_some_iff.1 hl).1
        obtain ⟨u', hu', hrel⟩ := h5 0 cs i l rfl hl
        have : (cs0.extract lc.base (lc.base + x.sz))[i]? = cs0[lc.base + i]? := by
          rw [Array.getElem?_extract, if_pos (by omega)]
        rw [this] at hu
        simp only [Nat.zero_mul, Nat.zero_add] at hu'
        rw [hu'] at hu
        injection hu with hu
        subst hu
        exact hrel
      obtain ⟨cs2, h6, h7, h8⟩ := (ih _ hrel).cells
      injection h6 with h6
      subst h6
      have hl' : cs'.length = cs.length := by rw [← h7]; simp; omega
      have hF : FT F ρ (b :: T) lc.blk := .inr ⟨b, by simp, lc, hr, rfl⟩
      have e0 : lc.base + (0 * x.sz + c) = lc.base + (0 * cs'.length + c) := by simp
      rw [e0]
      refine .fad (sz := cs'.length) (fun i c => cs0.getD (lc.base + c) undef) hF (by simp) (fun i e c q he' hq => ?_) (fun i e c q he' hq => ?_)
      · have hi : i = 0 := by
          have := (List.getElem?_eq_some_iff.1 he').1
          simp at this
          omega
        subst hi
        simp only [List.getElem?_cons_zero, Option.some.injEq] at he'
        subst he'
        have hc : c < cs'.length := (List.getElem?_eq_some_iff.1 hq).1
        simp only [World.cell?, h1, Nat.zero_mul, Nat.zero_add]
        rw [Array.getD_eq_getD_getElem?, Array.getElem?_eq_getElem (by omega)]
        rfl
      · have hi : i = 0 := by
          have := (List.getElem?_eq_some_iff.1 he').1
          simp at this
          omega
        subst hi
        simp only [List.getElem?_cons_zero, Option.some.injEq] at he'
        subst he'
        have hc : c < cs'.length := (List.getElem?_eq_some_iff.1 hq).1
        have hg : (cs0.extract lc.base (lc.base + x.sz))[c]? = some (cs0.getD (lc.base + c) undef) := by
          rw [Array.getElem?_extract, if_pos (by omega), Array.getD_eq_getD_getElem?, Array.getElem?_eq_getElem (by omega)]
          rfl
        exact (h8 c _ q hg hq).mono (FT.sub (fun x hx => List.mem_cons_of_mem _ hx)) (fun _ _ => rfl)
  | aggn =>
    intro v hv
    obtain ⟨cs, rfl, hn, -⟩ := hv.cells
    exact .agg hn (by simp)
  | @aggc u u' vs vs' S T h hs ih1 ih2 =>
    intro v hv
    obtain ⟨cs, rfl, hn, hr⟩ := hv.cells
    obtain ⟨cs⟩ := cs
    cases cs with
    | nil => simp at hn
    | cons c0 rest =>
      have h1 := (ih1 c0 (hr 0 c0 u (by simp) (by simp))).mono (FT.sub (T := S ++ T) (fun x hx => List.mem_append_left _ hx)) (fun _ _ => rfl)
      have h2 := (ih2 (.agg ⟨rest⟩) (.agg (by simpa using hn) fun i a l ha hl => hr (i + 1) a l (by simpa using ha) (by simpa using hl))).mono (FT.sub (T := S ++ T) (fun x hx => List.mem_append_right _ hx)) (fun _ _ => rfl)
      obtain ⟨cs2, h3, h4, h5⟩ := h2.cells
      injection h3 with h3
      subst h3
      refine .agg (by simpa using h4) fun i a l ha hl => ?_
      cases i with
      | zero =>
        simp at ha hl
        subst ha hl
        exact h1
      | succ i => exact h5 i a l (by simpa using ha) (by simpa using hl)
  | @fn f cs cs' T h ih =>
    intro v hv
    have hc : ∃ vs : Array Value, v = .func (.func f) #[] vs ∧ RelL w F ρ m (.agg vs) (.agg cs) := by
      cases hv with
      | frz h =>
        cases h with
        | fn hn h => exact ⟨_, rfl, .frz (.agg hn h)⟩
      | fn hn h => exact ⟨_, rfl, .agg hn h⟩
    obtain ⟨vs, rfl, hr⟩ := hc
    obtain ⟨cs2, h3, h4, h5⟩ := (ih _ hr).cells
    injection h3 with h3
    subst h3
    exact .fn h4 h5

/-! ### Marks -/
theorem effM_append (f : Mem) (a b : List (Nat × Box)) : effM f (a ++ b) = effM (effM f a) b := by
  induction a generalizing f with
  | nil => rfl
  | cons x r ih => exact ih _
theorem markE_mark {m : Mem} {n : Nat} {x : Box} (hx : m n = some x) (T : List Nat) : markE (updM m n { x with frz := true }) T = markE m T := by
  induction T with
  | nil => rfl
  | cons b r ih =>
    simp only [markE]
    by_cases hb : n = b
    · subst hb
      rw [updM_same, hx]
      simp [ih]
    · rw [updM_ne _ _ hb, ih]
theorem Inv.mark {X : Ctx} {a : Act} {w : World} {ρ : Locs} (T : List Nat) :
    ∀ {st : St} {F : Nat → Prop}, Inv X st a w F ρ → ∃ F', (∀ b, F b → F' b) ∧ (∀ b, FT F ρ T b → (∀ n ∈ T, (st.m n).isSome = true) → F' b) ∧ Inv X ⟨st.ts, effM st.m (markE st.m T)⟩ a w F' ρ := by
  induction T with
  | nil =>
    intro st F h
    refine ⟨F, fun _ h => h, fun b hb _ => ?_, h⟩
    rcases hb with hb | ⟨n, hn, -⟩
    · exact hb
    · cases hn
  | cons n r ih =>
    intro st F h
    cases hx : st.m n with
    | none =>
      obtain ⟨F', h1, h2, h3⟩ := ih h
      refine ⟨F', h1, fun b hb hs => ?_, by simpa only [markE, hx] using h3⟩
      have := hs n (by simp)
      rw [hx] at this
      cases this
    | some x =>
      obtain ⟨F1, h1, h2, h3⟩ := h.mark1 hx
      obtain ⟨F2, k1, k2, k3⟩ := ih h3
      refine ⟨F2, fun b hb => k1 b (h1 b hb), fun b hb hs => ?_, ?_⟩
      · rcases hb with hb | ⟨k, hk, l, hl, he⟩
        · exact k1 b (h1 b hb)
        · rcases List.mem_cons.1 hk with hk | hk
          · subst hk
            exact k1 b (he ▸ h2 l hl)
          · refine k2 b (.inr ⟨k, hk, l, hl, he⟩) fun j hj => ?_
            by_cases hjn : n = j
            · subst hjn
              show (updM st.m n _ n).isSome = true
              rw [updM_same]
              rfl
            · show (updM st.m n _ j).isSome = true
              rw [updM_ne _ _ hjn]
              exact hs j (List.mem_cons_of_mem _ hj)
      · simp only [markE, hx, effM]
        rw [← markE_mark hx]
        exact k3
theorem Frz.some {m : Mem} {l l' : LV} {T : List Nat} (h : Frz m l l' T) : ∀ n ∈ T, (m n).isSome = true := by
  induction h with
  | pure => simp
  | nils => simp
  | nilm => simp
  | own hm => simp [hm]
  | mref hm => simp [hm]
  | ref hm hg hk he hc ih =>
    intro n hn
    rcases List.mem_cons.1 hn with rfl | hn
    · simp [hm]
    · exact ih n hn
  | aggn => simp
  | aggc h hs ih1 ih2 =>
    intro n hn
    rcases List.mem_append.1 hn with hn | hn
    · exact ih1 n hn
    · exact ih2 n hn
  | fn h ih => exact ih
end Go.Proofs.Ytpepcfombibpeaa.Mv
