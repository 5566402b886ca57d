/- What an operation looks at: its operands and some boxes, and nothing else. -/
import Derived.Test.YtpepcfombibpeaaMv13
set_option linter.unusedVariables false
set_option linter.unusedSimpArgs false
namespace Go.Proofs.Ytpepcfombibpeaa.Mv

def Wn (e : List (Nat × Box)) : List Nat := e.map (·.1)
theorem updM_at {f g : Mem} {b n : Nat} {x : Box} (h : f n = g n) : updM f b x n = updM g b x n := by
  unfold updM
  rw [h]
theorem effM_at : ∀ (e : List (Nat × Box)) {f g : Mem} {n : Nat}, f n = g n → effM f e n = effM g e n
  | [], _, _, _, h => h
  | (_, _) :: r, _, _, _, h => effM_at r (updM_at h)
theorem effM_in : ∀ (e : List (Nat × Box)) {f g : Mem} {n : Nat}, n ∈ Wn e → effM f e n = effM g e n
  | [], _, _, _, h => by cases h
  | (b, x) :: r, f, g, n, h => by
    by_cases hb : b = n
    · subst hb
      exact effM_at r (by rw [updM_same, updM_same])
    · refine effM_in r (f := updM f b x) (g := updM g b x) ?_
      rcases List.mem_cons.1 h with h | h
      · exact absurd h.symm hb
      · exact h
theorem effM_out : ∀ (e : List (Nat × Box)) {f : Mem} {n : Nat}, n ∉ Wn e → effM f e n = f n
  | [], _, _, _ => rfl
  | (b, x) :: r, f, n, h => by
    have hb : b ≠ n := fun hb => h (by simp [Wn, hb])
    exact (effM_out r fun hr => h (List.mem_cons_of_mem _ hr)).trans (updM_ne _ _ hb)

theorem markE_congr {m m' : Mem} : ∀ {T : List Nat}, (∀ n ∈ T, m n = m' n) → markE m T = markE m' T
  | [], _ => rfl
  | b :: r, h => by
    have h1 := h b (by simp)
    have h2 := markE_congr (m := m) (m' := m') (T := r) fun n hn => h n (List.mem_cons_of_mem _ hn)
    simp only [markE, h1, h2]
theorem markE_names {m : Mem} : ∀ {T : List Nat}, ∀ n ∈ Wn (markE m T), n ∈ T
  | [], n, h => h
  | b :: r, n, h => by
    simp only [markE] at h
    split at h
    · rcases List.mem_cons.1 h with h | h
      · exact List.mem_cons.2 (.inl h)
      · exact List.mem_cons_of_mem _ (markE_names n h)
    · exact List.mem_cons_of_mem _ (markE_names n h)

theorem Frz.loc {m m' : Mem} {v v' : LV} {T : List Nat} (h : Frz m v v' T) : (∀ n ∈ T, m n = m' n) → Frz m' v v' T := by
  induction h with
  | pure h => exact fun _ => .pure h
  | nils => exact fun _ => .nils
  | nilm => exact fun _ => .nilm
  | own hm hg hk hl => exact fun h => .own (by rw [← h _ (by simp)]; exact hm) hg hk hl
  | mref hm hg hk => exact fun h => .mref (by rw [← h _ (by simp)]; exact hm) hg hk
  | ref hm hg hk he hc ih => exact fun h => .ref (by rw [← h _ (by simp)]; exact hm) hg hk he (ih fun n hn => h n (List.mem_cons_of_mem _ hn))
  | aggn => exact fun _ => .aggn
  | aggc h hs ih1 ih2 => exact fun h => .aggc (ih1 fun n hn => h n (List.mem_append_left _ hn)) (ih2 fun n hn => h n (List.mem_append_right _ hn))
  | fn h ih => exact fun h => .fn (ih h)
theorem FrzP.loc {m m' : Mem} {sz n : Nat} {ρ ρ' : Operand → LV} {ps : List (Nat × Operand)} {ps' : List (Nat × List LV)} {T : List Nat} (h : FrzP m sz n ρ ps ps' T) :
    (∀ p ∈ ps, ρ p.2 = ρ' p.2) → (∀ n ∈ T, m n = m' n) → FrzP m' sz n ρ' ps ps' T := by
  induction h with
  | nil => exact fun _ _ => .nil
  | cons h h1 hi hl hr ih =>
    intro hρ hm
    refine .cons ?_ h1 hi hl (ih (fun p hp => hρ p (List.mem_cons_of_mem _ hp)) fun n hn => hm n (List.mem_append_right _ hn))
    rw [← hρ _ (List.mem_cons_self ..)]
    exact h.loc fun n hn => hm n (List.mem_append_left _ hn)
theorem SrcR.loc {m m' : Mem} {v : LV} {sz : Nat} {es : List (List LV)} {R : List Nat} (h : SrcR m v sz es R) (hm : ∀ n ∈ R, m n = m' n) : SrcR m' v sz es R := by
  cases h with
  | own h1 hg hk hl => exact .own (by rw [← hm _ (by simp)]; exact h1) hg hk hl
  | sl h => exact .sl h
  | nils => exact .nils
theorem LiveS.loc {m m' : Mem} {v : LV} {R : List Nat} (h : LiveS m v R) (hm : ∀ n ∈ R, m n = m' n) : LiveS m' v R := by
  cases h with
  | own h1 hg => exact .own (by rw [← hm _ (by simp)]; exact h1) hg
  | nils => exact .nils
  | sl => exact .sl
  | str => exact .str
theorem bndL_congr {ρ ρ' : Operand → LV} {d : Nat} {x : Option Operand} (h : ∀ y, x = some y → ρ y = ρ' y) : bndL ρ d x = bndL ρ' d x := by
  cases x with
  | none => rfl
  | some y => simp only [bndL, h y rfl]

theorem OpR.loc {P : Program} {d : Nat} {ρ ρ' : Operand → LV} {m m' : Mem} {op : Op} {v : LV} {eff : List (Nat × Box)} {R : List Nat} (h : OpR P d ρ m op v eff R)
    (hρ : ∀ x ∈ op.operands, ρ x = ρ' x) (hm : ∀ n ∈ R, m n = m' n) : OpR P d ρ' m' op v eff R := by
  cases h
  case move =>
    try simp [Op.operands, Call.operands] at hρ
    try simp at hm
    try simp only [hρ]
    try simp only [hm, genAt]
    apply OpR.move <;> first | assumption | (simp only [← hρ, ← hm]; assumption) | (simp only [← hρ]; assumption) | (simp only [← hm]; assumption)
  case assign =>
    try simp [Op.operands, Call.operands] at hρ
    try simp at hm
    try simp only [hρ]
    try simp only [hm, genAt]
    apply OpR.assign <;> first | assumption | (simp only [← hρ, ← hm]; assumption) | (simp only [← hρ]; assumption) | (simp only [← hm]; assumption)
  case pick =>
    try simp [Op.operands, Call.operands] at hρ
    try simp at hm
    try simp only [hρ]
    try simp only [hm, genAt]
    apply OpR.pick <;> first | assumption | (simp only [← hρ, ← hm]; assumption) | (simp only [← hρ]; assumption) | (simp only [← hm]; assumption)
  case alloc =>
    try simp [Op.operands, Call.operands] at hρ
    try simp at hm
    try simp only [hρ]
    try simp only [hm, genAt]
    apply OpR.alloc <;> first | assumption | (simp only [← hρ, ← hm]; assumption) | (simp only [← hρ]; assumption) | (simp only [← hm]; assumption)
  case box =>
    try simp [Op.operands, Call.operands] at hρ
    try simp at hm
    try simp only [hρ]
    try simp only [hm, genAt]
    apply OpR.box <;> first | assumption | (simp only [← hρ, ← hm]; assumption) | (simp only [← hρ]; assumption) | (simp only [← hm]; assumption)
  case build t ps hp h =>
    have e : ∀ p ∈ ps.toList, ρ p.2 = ρ' p.2 := fun p hp => hρ p.2 (by simp only [Op.operands]; simp; exact ⟨p.1, by simpa using hp⟩)
    refine .build ?_ ?_
    · rw [← h]
      congr 1
      refine List.map_congr_left fun p hp => ?_
      simp only [e p hp]
    · rw [List.all_eq_true] at hp ⊢
      intro p hp'
      rw [← e p hp']
      exact hp p hp'
  case buildSlice t e n ps z ps' T ht hz hs hn hb hn0 hp =>
    have e : ∀ p ∈ ps.toList, ρ p.2 = ρ' p.2 := fun p hp => hρ p.2 (by simp only [Op.operands]; simp; exact ⟨p.1, by simpa using hp⟩)
    rw [markE_congr fun n hn => hm n (List.mem_cons_of_mem _ hn), show genAt m d = genAt m' d by simp only [genAt, hm d (List.mem_cons_self ..)]]
    exact .buildSlice ht hz hs hn hb hn0 (hp.loc e fun n hn => hm n (List.mem_cons_of_mem _ hn))
  case load =>
    try simp [Op.operands, Call.operands] at hρ
    try simp at hm
    try simp only [hρ]
    try simp only [hm, genAt]
    apply OpR.load <;> first | assumption | (simp only [← hρ, ← hm]; assumption) | (simp only [← hρ]; assumption) | (simp only [← hm]; assumption)
  case loadA =>
    try simp [Op.operands, Call.operands] at hρ
    try simp at hm
    try simp only [hρ]
    try simp only [hm, genAt]
    apply OpR.loadA <;> first | assumption | (simp only [← hρ, ← hm]; assumption) | (simp only [← hρ]; assumption) | (simp only [← hm]; assumption)
  case loadF =>
    try simp [Op.operands, Call.operands] at hρ
    try simp at hm
    try simp only [hρ]
    try simp only [hm, genAt]
    apply OpR.loadF <;> first | assumption | (simp only [← hρ, ← hm]; assumption) | (simp only [← hρ]; assumption) | (simp only [← hm]; assumption)
  case loadFA =>
    try simp [Op.operands, Call.operands] at hρ
    try simp at hm
    try simp only [hρ]
    try simp only [hm, genAt]
    apply OpR.loadFA <;> first | assumption | (simp only [← hρ, ← hm]; assumption) | (simp only [← hρ]; assumption) | (simp only [← hm]; assumption)
  case store =>
    try simp [Op.operands, Call.operands] at hρ
    try simp at hm
    try simp only [hρ]
    try simp only [hm, genAt]
    apply OpR.store <;> first | assumption | (simp only [← hρ, ← hm]; assumption) | (simp only [← hρ]; assumption) | (simp only [← hm]; assumption)
  case storeP t a y b g i c n x cs vs T ha hmb hg hf hk he hs hy hb hl h1 hc =>
    rw [markE_congr fun n hn => hm n (List.mem_cons_of_mem _ hn)]
    exact .storeP (by rw [← hρ _ (by simp [Op.operands])]; exact ha) (by rw [← hm _ (by simp)]; exact hmb) hg hf hk he hs (by rw [← hρ y (by simp [Op.operands])]; exact hy.loc fun n hn => hm n (List.mem_cons_of_mem _ hn)) hb hl h1 hc
  case nilCheck =>
    try simp [Op.operands, Call.operands] at hρ
    try simp at hm
    try simp only [hρ]
    try simp only [hm, genAt]
    apply OpR.nilCheck <;> first | assumption | (simp only [← hρ, ← hm]; assumption) | (simp only [← hρ]; assumption) | (simp only [← hm]; assumption)
  case nilCheckR =>
    try simp [Op.operands, Call.operands] at hρ
    try simp at hm
    try simp only [hρ]
    try simp only [hm, genAt]
    apply OpR.nilCheckR <;> first | assumption | (simp only [← hρ, ← hm]; assumption) | (simp only [← hρ]; assumption) | (simp only [← hm]; assumption)
  case nilEq =>
    try simp [Op.operands, Call.operands] at hρ
    try simp at hm
    try simp only [hρ]
    try simp only [hm, genAt]
    apply OpR.nilEq <;> first | assumption | (simp only [← hρ, ← hm]; assumption) | (simp only [← hρ]; assumption) | (simp only [← hm]; assumption)
  case nilNe =>
    try simp [Op.operands, Call.operands] at hρ
    try simp at hm
    try simp only [hρ]
    try simp only [hm, genAt]
    apply OpR.nilNe <;> first | assumption | (simp only [← hρ, ← hm]; assumption) | (simp only [← hρ]; assumption) | (simp only [← hm]; assumption)
  case nilCheckF =>
    try simp [Op.operands, Call.operands] at hρ
    try simp at hm
    try simp only [hρ]
    try simp only [hm, genAt]
    apply OpR.nilCheckF <;> first | assumption | (simp only [← hρ, ← hm]; assumption) | (simp only [← hρ]; assumption) | (simp only [← hm]; assumption)
  case bin =>
    try simp [Op.operands, Call.operands] at hρ
    try simp at hm
    try simp only [hρ]
    try simp only [hm, genAt]
    apply OpR.bin <;> first | assumption | (simp only [← hρ, ← hm]; assumption) | (simp only [← hρ]; assumption) | (simp only [← hm]; assumption)
  case un =>
    try simp [Op.operands, Call.operands] at hρ
    try simp at hm
    try simp only [hρ]
    try simp only [hm, genAt]
    apply OpR.un <;> first | assumption | (simp only [← hρ, ← hm]; assumption) | (simp only [← hρ]; assumption) | (simp only [← hm]; assumption)
  case conv =>
    try simp [Op.operands, Call.operands] at hρ
    try simp at hm
    try simp only [hρ]
    try simp only [hm, genAt]
    apply OpR.conv <;> first | assumption | (simp only [← hρ, ← hm]; assumption) | (simp only [← hρ]; assumption) | (simp only [← hm]; assumption)
  case fieldAddr =>
    try simp [Op.operands, Call.operands] at hρ
    try simp at hm
    try simp only [hρ]
    try simp only [hm, genAt]
    apply OpR.fieldAddr <;> first | assumption | (simp only [← hρ, ← hm]; assumption) | (simp only [← hρ]; assumption) | (simp only [← hm]; assumption)
  case fieldAddrF =>
    try simp [Op.operands, Call.operands] at hρ
    try simp at hm
    try simp only [hρ]
    try simp only [hm, genAt]
    apply OpR.fieldAddrF <;> first | assumption | (simp only [← hρ, ← hm]; assumption) | (simp only [← hρ]; assumption) | (simp only [← hm]; assumption)
  case indexAddr =>
    try simp [Op.operands, Call.operands] at hρ
    try simp at hm
    try simp only [hρ]
    try simp only [hm, genAt]
    apply OpR.indexAddr <;> first | assumption | (simp only [← hρ, ← hm]; assumption) | (simp only [← hρ]; assumption) | (simp only [← hm]; assumption)
  case indexAddrF =>
    try simp [Op.operands, Call.operands] at hρ
    try simp at hm
    try simp only [hρ]
    try simp only [hm, genAt]
    apply OpR.indexAddrF <;> first | assumption | (simp only [← hρ, ← hm]; assumption) | (simp only [← hρ]; assumption) | (simp only [← hm]; assumption)
  case indexAddrA =>
    try simp [Op.operands, Call.operands] at hρ
    try simp at hm
    try simp only [hρ]
    try simp only [hm, genAt]
    apply OpR.indexAddrA <;> first | assumption | (simp only [← hρ, ← hm]; assumption) | (simp only [← hρ]; assumption) | (simp only [← hm]; assumption)
  case indexAddrFA =>
    try simp [Op.operands, Call.operands] at hρ
    try simp at hm
    try simp only [hρ]
    try simp only [hm, genAt]
    apply OpR.indexAddrFA <;> first | assumption | (simp only [← hρ, ← hm]; assumption) | (simp only [← hρ]; assumption) | (simp only [← hm]; assumption)
  case field =>
    try simp [Op.operands, Call.operands] at hρ
    try simp at hm
    try simp only [hρ]
    try simp only [hm, genAt]
    apply OpR.field <;> first | assumption | (simp only [← hρ, ← hm]; assumption) | (simp only [← hρ]; assumption) | (simp only [← hm]; assumption)
  case fieldA =>
    try simp [Op.operands, Call.operands] at hρ
    try simp at hm
    try simp only [hρ]
    try simp only [hm, genAt]
    apply OpR.fieldA <;> first | assumption | (simp only [← hρ, ← hm]; assumption) | (simp only [← hρ]; assumption) | (simp only [← hm]; assumption)
  case indexS =>
    try simp [Op.operands, Call.operands] at hρ
    try simp at hm
    try simp only [hρ]
    try simp only [hm, genAt]
    apply OpR.indexS <;> first | assumption | (simp only [← hρ, ← hm]; assumption) | (simp only [← hρ]; assumption) | (simp only [← hm]; assumption)
  case slice t e x lo hi b g off len l h cap y hx hmb hg hk ht hs hl hh h1 h2 h3 =>
    have e0 : ρ x = ρ' x := hρ x (by simp [Op.operands])
    have e1 : ∀ d, bndL ρ d lo = bndL ρ' d lo := fun d => bndL_congr fun y hy => hρ y (by simp [Op.operands, hy])
    have e2 : ∀ d, bndL ρ d hi = bndL ρ' d hi := fun d => bndL_congr fun y hy => hρ y (by simp [Op.operands, hy])
    rw [e0] at hx
    rw [e1] at hl
    rw [e2] at hh
    exact .slice hx (by rw [← hm _ (by simp)]; exact hmb) hg hk ht hs hl hh h1 h2 h3
  case slice3 t e x lo hi mx b g off len l h c cap y hx hmb hg hk ht hs hl hhs hh hc h1 h2 h3 h4 =>
    have e0 : ρ x = ρ' x := hρ x (by simp [Op.operands])
    have e1 : ∀ d, bndL ρ d lo = bndL ρ' d lo := fun d => bndL_congr fun y hy => hρ y (by simp [Op.operands, hy])
    have e2 : ∀ d, bndL ρ d hi = bndL ρ' d hi := fun d => bndL_congr fun y hy => hρ y (by simp [Op.operands, hy])
    rw [e0] at hx
    rw [e1] at hl
    rw [e2] at hh
    have e3 : bndL ρ 0 (some mx) = bndL ρ' 0 (some mx) := bndL_congr fun y hy => hρ y (by simp [Op.operands]; injection hy with hy; simp [hy])
    rw [e3] at hc
    exact .slice3 hx (by rw [← hm _ (by simp)]; exact hmb) hg hk ht hs hl hhs hh hc h1 h2 h3 h4
  case sliceF t e x lo hi es l h sz hx ht hs hz hl hh h1 h2 =>
    have e0 : ρ x = ρ' x := hρ x (by simp [Op.operands])
    have e1 : ∀ d, bndL ρ d lo = bndL ρ' d lo := fun d => bndL_congr fun y hy => hρ y (by simp [Op.operands, hy])
    have e2 : ∀ d, bndL ρ d hi = bndL ρ' d hi := fun d => bndL_congr fun y hy => hρ y (by simp [Op.operands, hy])
    rw [e0] at hx
    rw [e1] at hl
    rw [e2] at hh
    exact .sliceF hx ht hs hz hl hh h1 h2
  case sliceN t e x lo hi l h sz hx ht hs hl hh h1 h2 =>
    have e0 : ρ x = ρ' x := hρ x (by simp [Op.operands])
    have e1 : ∀ d, bndL ρ d lo = bndL ρ' d lo := fun d => bndL_congr fun y hy => hρ y (by simp [Op.operands, hy])
    have e2 : ∀ d, bndL ρ d hi = bndL ρ' d hi := fun d => bndL_congr fun y hy => hρ y (by simp [Op.operands, hy])
    rw [e0] at hx
    rw [e1] at hl
    rw [e2] at hh
    exact .sliceN hx ht hs hl hh h1 h2
  case sliceS t x lo hi s l h hx ht hl hh h1 h2 =>
    have e0 : ρ x = ρ' x := hρ x (by simp [Op.operands])
    have e1 : ∀ d, bndL ρ d lo = bndL ρ' d lo := fun d => bndL_congr fun y hy => hρ y (by simp [Op.operands, hy])
    have e2 : ∀ d, bndL ρ d hi = bndL ρ' d hi := fun d => bndL_congr fun y hy => hρ y (by simp [Op.operands, hy])
    rw [e0] at hx
    rw [e1] at hl
    rw [e2] at hh
    exact .sliceS hx ht hl hh h1 h2
  case makeSlice =>
    try simp [Op.operands, Call.operands] at hρ
    try simp at hm
    try simp only [hρ]
    try simp only [hm, genAt]
    apply OpR.makeSlice <;> first | assumption | (simp only [← hρ, ← hm]; assumption) | (simp only [← hρ]; assumption) | (simp only [← hm]; assumption)
  case makeMap =>
    try simp [Op.operands, Call.operands] at hρ
    try simp at hm
    try simp only [hρ]
    try simp only [hm, genAt]
    apply OpR.makeMap <;> first | assumption | (simp only [← hρ, ← hm]; assumption) | (simp only [← hρ]; assumption) | (simp only [← hm]; assumption)
  case lookup =>
    try simp [Op.operands, Call.operands] at hρ
    try simp at hm
    try simp only [hρ]
    try simp only [hm, genAt]
    apply OpR.lookup <;> first | assumption | (simp only [← hρ, ← hm]; assumption) | (simp only [← hρ]; assumption) | (simp only [← hm]; assumption)
  case mapUpdate =>
    try simp [Op.operands, Call.operands] at hρ
    try simp at hm
    try simp only [hρ]
    try simp only [hm, genAt]
    apply OpR.mapUpdate <;> first | assumption | (simp only [← hρ, ← hm]; assumption) | (simp only [← hρ]; assumption) | (simp only [← hm]; assumption)
  case extract =>
    try simp [Op.operands, Call.operands] at hρ
    try simp at hm
    try simp only [hρ]
    try simp only [hm, genAt]
    apply OpR.extract <;> first | assumption | (simp only [← hρ, ← hm]; assumption) | (simp only [← hρ]; assumption) | (simp only [← hm]; assumption)
  case makeFunc f cap =>
    rw [List.map_congr_left (g := ρ') fun x hx => hρ x (by simpa [Op.operands] using hx)]
    exact .makeFunc
  case len x t n hl ht h =>
    have e0 : ρ x = ρ' x := hρ x (by simp [Op.operands, Call.operands])
    rw [e0] at h hl ht
    exact .len hl (h.loc hm) ht
  case lenM =>
    try simp [Op.operands, Call.operands] at hρ
    try simp at hm
    try simp only [hρ]
    try simp only [hm, genAt]
    apply OpR.lenM <;> first | assumption | (simp only [← hρ, ← hm]; assumption) | (simp only [← hρ]; assumption) | (simp only [← hm]; assumption)
  case max x xs ts h =>
    rw [hρ x (by simp [Op.operands, Call.operands]), List.map_congr_left (g := ρ') fun y hy => hρ y (by simp [Op.operands, Call.operands, hy])] at h
    exact .max h
  case min x xs ts h =>
    rw [hρ x (by simp [Op.operands, Call.operands]), List.map_congr_left (g := ρ') fun y hy => hρ y (by simp [Op.operands, Call.operands, hy])] at h
    exact .min h
  case appendN x y t u e es z R hx ht hu hz hs hzl hy h0 hone h1 hb =>
    rw [hρ x (by simp [Op.operands, Call.operands])] at hx
    rw [hρ y (by simp [Op.operands, Call.operands])] at hy
    rw [show genAt m d = genAt m' d by simp only [genAt, hm d (List.mem_cons_self ..)]]
    exact .appendN hx ht hu hz hs hzl (hy.loc fun n hn => hm n (List.mem_cons_of_mem _ hn)) h0 hone h1 hb
  case append0 x y t u e n R S hx hxs ht hu hsz hy hys hlx hly =>
    have e0 : ρ x = ρ' x := hρ x (by simp [Op.operands, Call.operands])
    have e1 : ρ y = ρ' y := hρ y (by simp [Op.operands, Call.operands])
    rw [e0] at hx hxs hlx ⊢
    rw [e1] at hy hys hly
    exact .append0 hx hxs ht hu hsz hy hys (hlx.loc fun n hn => hm n (List.mem_append_left _ hn)) (hly.loc fun n hn => hm n (List.mem_append_right _ hn))
  case append x y t u e b g off len bx es z R hx hmb hg hf hk hend ht hu hz hs hzs hzl hy hyb h0 hone h1 hb =>
    rw [hρ x (by simp [Op.operands, Call.operands])] at hx
    rw [hρ y (by simp [Op.operands, Call.operands])] at hy
    exact .append hx (by rw [← hm _ (by simp)]; exact hmb) hg hf hk hend ht hu hz hs hzs hzl (hy.loc fun n hn => hm n (List.mem_cons_of_mem _ hn)) hyb h0 hone h1 hb
  case appendC x y t u e b g off len c bx es z R hx hmb hg hk hl ht hu hz hs hzs hzl hy h0 hgr h1 hb =>
    rw [hρ x (by simp [Op.operands, Call.operands])] at hx
    rw [hρ y (by simp [Op.operands, Call.operands])] at hy
    rw [show genAt m d = genAt m' d by simp only [genAt, hm d (List.mem_cons_self ..)]]
    exact .appendC hx (by rw [← hm _ (by simp)]; exact hmb) hg hk hl ht hu hz hs hzs hzl (hy.loc fun n hn => hm n (List.mem_cons_of_mem _ (List.mem_cons_of_mem _ hn))) h0 hgr h1 hb
end Go.Proofs.Ytpepcfombibpeaa.Mv
