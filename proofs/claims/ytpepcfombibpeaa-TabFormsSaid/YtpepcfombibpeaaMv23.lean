/- A nil slice is a slice of this call's own, of length none; what is put behind a slice of records. -/
import Derived.Test.YtpepcfombibpeaaMv22
set_option linter.unusedVariables false
set_option linter.unusedSimpArgs false
namespace Go.Proofs.Ytpepcfombibpeaa.Mv

theorem Inv.noBox {X : Ctx} {st : St} {a : Act} {w : World} {F : Nat → Prop} {ρ : Locs} (h : Inv X st a w F ρ) (b sz : Nat) :
    Inv X ⟨st.ts, updM st.m b ⟨genAt st.m b, false, .slc, sz, []⟩⟩ a w F (updRo ρ b none) ∧ Compat st.m ρ (updM st.m b ⟨genAt st.m b, false, .slc, sz, []⟩) (updRo ρ b none) :=
  h.adopt (fun k hk => updRo_ne _ _ (Ne.symm hk)) rfl rfl (fun l hl => by rw [updRo_same] at hl; cases hl) fun _ => BoxOK.of_cells (by simp) (by rw [updRo_same]; exact rfl)

theorem own_nil {w : World} {F : Nat → Prop} {ρ : Locs} {m : Mem} {b g sz : Nat} {v : Value} (hv : v = .slice none 0 0) (hm : m b = some ⟨g, false, .slc, sz, []⟩) (hr : ρ b = none) : RelL w F ρ m v (.own b g 0 0 none) := by
  subst hv
  refine .own rfl hm (Nat.le_refl _) fun _ => ⟨rfl, Nat.le_refl _, ?_⟩
  rw [hr]
  exact ⟨none, rfl⟩

theorem Weak.nilSlot {ts : Slots} {m : Mem} {j : Nat} (b sz : Nat) (hj : ts j = .nils) : Weak ⟨ts, m⟩ ⟨updS ts j (.own b (genAt m b) 0 0 none), updM m b ⟨genAt m b, false, .slc, sz, []⟩⟩ := by
  intro X a w F ρ h
  obtain ⟨h1, h2⟩ := h.noBox b sz
  refine ⟨F, _, { h1 with slots := fun i => ?_ }⟩
  by_cases hi : j = i
  · subst hi
    have hv := h.slots j
    change RelL w F ρ m _ (ts j) at hv
    rw [hj] at hv
    show RelL w F _ _ _ (updS ts j _ j)
    rw [updS_same]
    exact own_nil hv.nils (updM_same _ _ _) (updRo_same _ _ _)
  · show RelL w F _ _ _ (updS ts j _ i)
    rw [updS_ne _ _ hi]
    exact h1.slots i

theorem Weak.nilCell {ts : Slots} {m : Mem} {n c : Nat} {x : Box} {cs : List LV} (b sz : Nat) (hn : m n = some x) (hf : x.frz = false) (hk : x.kind = .var) (he : x.es = [cs]) (hc : cs[c]? = some .nils) (hb : Nat.beq b n = false) :
    Weak ⟨ts, m⟩ ⟨ts, updM (updM m b ⟨genAt m b, false, .slc, sz, []⟩) n ⟨x.gen, false, .var, x.sz, [cs.set c (.own b (genAt m b) 0 0 none)]⟩⟩ := by
  intro X a w F ρ h
  have hbn : b ≠ n := fun e => by rw [e, Nat.beq_refl] at hb; cases hb
  obtain ⟨h1, -⟩ := h.noBox b sz
  have hn1 : (updM m b ⟨genAt m b, false, .slc, sz, []⟩) n = some x := by rw [updM_ne _ _ hbn]; exact hn
  have hcl := BoxOK.cells (by rw [hk]; simp) (h1.boxes n x hn1)
  refine ⟨F, _, h1.write (n := n) (ρ' := updRo ρ b none) (x' := ⟨x.gen, false, .var, x.sz, [cs.set c (.own b (genAt m b) 0 0 none)]⟩) rfl rfl rfl (Nat.le_refl _) (fun _ _ _ => rfl) (fun _ _ => rfl) rfl (fun y hy => ?_) (fun l hl => ?_) fun hcm _ => ?_⟩
  · change (updM m b _) n = some y at hy
    rw [hn1] at hy
    injection hy with hy
    subst hy
    exact .inl ⟨rfl, rfl, rfl, .inr (by rw [he]; rfl), hk.symm⟩
  · exact ⟨(h1.place n x l hn1 hl).1, .inr ⟨x, l, hn1, hf, hl, rfl⟩⟩
  · refine BoxOK.of_cells (by simp) ?_
    unfold CellsOK at hcl ⊢
    cases hr : updRo ρ b none n with
    | none =>
      rw [hr] at hcl
      have hcl' : x.es = [] := hcl
      rw [he] at hcl'
      cases hcl'
    | some l =>
      rw [hr] at hcl
      obtain ⟨ks, t, g1, g2, g3, g4, g5⟩ := hcl
      rw [he] at g3 g4 g5
      rw [hk] at g5
      refine ⟨ks, t, g1, g2, g3, fun e hh => ?_, fun i e k q hi hq => ?_⟩
      · simp at hh
        subst hh
        rw [List.length_set]
        exact g4 cs (by simp)
      · have hi0 : i = 0 := by have := (List.getElem?_eq_some_iff.1 hi).1; simp at this; omega
        subst hi0
        simp only [List.getElem?_cons_zero, Option.some.injEq] at hi
        subst hi
        by_cases hkc : c = k
        · subst hkc
          have hlt : c < cs.length := (List.getElem?_eq_some_iff.1 hc).1
          rw [List.getElem?_set_self hlt] at hq
          injection hq with hq
          subst hq
          obtain ⟨v, hv, hrel⟩ := g5 0 cs c .nils (by simp) hc
          refine ⟨v, hv, ?_⟩
          have hv2 := (show RelL w F _ _ v .nils from hrel).nils
          exact own_nil hv2 (by rw [updM_ne _ _ (Ne.symm hbn)]; exact updM_same _ _ _) (updRo_same _ _ _)
        · rw [List.getElem?_set_ne hkc] at hq
          obtain ⟨v, hv, hrel⟩ := g5 0 cs k q (by simp) hq
          exact ⟨v, hv, (show RelL w F _ _ v q from hrel).mono (fun _ h => h) (fun _ _ => rfl) hcm⟩

section
variable {P : Program} {I : InlP} {nb : Nat} {Q : Ex → St → Prop} {ops : Array Oper} {K : St → Prop} {r : List Oper} {ts : Slots} {m : Mem} {t : Nat} {ty : TypeId} {pos : String} {af : Array Edge} {d : Bool} {i : Nat} {acc : List (Nat × List Nat × List Nat)}
/-- Behind a region one may know less. -/
theorem goWeak {y : Code} {s s' : St} (hw : Weak s s') (h : Wp P I nb y Q s') : thenX (fun s => ∃ s', Weak s s' ∧ Wp P I nb y Q s') Q .normal s := ⟨s', hw, h⟩

/-- One record is put behind a slice of this call's own. -/
theorem GL.append1 (hI : InlM I) {α : Type} {f : α → List LV} {l : List α} {v : α} {x y : Operand} {e u et : TypeId} {b g n b' g' : Nat} {cap : Option Nat} {bx by' : Box} {z : List LV} {sz : Nat} (hz : zeroL P et = some z) (hzl : z.length = sz) (hs : szT P et = some sz) (ht : sliceE P e = some et) (hu : u = e) (h0 : 0 < sz) (hb : P.bytesOf et ≤ 4096)
    (hx : evalO ts x = .own b g 0 n none) (hm : m b = some bx) (hg : bx.gen = g) (hf : bx.frz = false) (hk : bx.kind = .slc) (hsz : bx.sz = sz) (he : bx.es = em f l) (hn : n = l.length)
    (hy : evalO ts y = .own b' g' 0 1 cap) (hm' : m b' = some by') (hg' : by'.gen = g') (hk' : by'.kind = .slc) (hsz' : by'.sz = sz) (he' : by'.es = [f v]) (hbb : Nat.beq b b' = false) (h1 : (f v).all oneC = true) (hle : n + 1 ≤ 4294967296)
    (k : GL P I nb ops K d r (i + 1) ((i, [b], [b, b']) :: acc) ⟨updS ts t (.own b (g + 1) 0 (n + 1) none), updM m b ⟨g + 1, false, .slc, sz, em f (l ++ [v])⟩⟩) :
    GL P I nb ops K d (⟨some t, .call { callee := .builtin .append, args := #[x, y], argTypes := #[e, u] }, ty, pos, af, none⟩ :: r) i acc ⟨ts, m⟩ := by
  have hbn : b ≠ b' := fun e => by rw [e, Nat.beq_refl] at hbb; cases hbb
  have hsrc : SrcR m (evalO ts y) sz [f v] [b'] := by
    rw [hy]
    have := SrcR.own (m := m) (b := b') (g := g') (off := 0) (len := 1) (cap := cap) hm' hg' hk' (by rw [he']; simp)
    rw [he', hsz'] at this
    exact this
  exact .append hI ht hu hz hzl hs h0 hb hx hm hg hf hk hsz (by rw [he, em_len]; omega) hsrc (by simpa using hbn) (by simp) (by simpa using h1) rfl hle (by rw [he]; exact em_snoc f l v) k
end
end Go.Proofs.Ytpepcfombibpeaa.Mv
