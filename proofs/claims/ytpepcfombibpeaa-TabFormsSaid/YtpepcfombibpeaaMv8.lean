/- Stores, addresses and slices of slices are sound. -/
import Derived.Test.YtpepcfombibpeaaMv7
set_option linter.unusedVariables false
set_option linter.unusedSimpArgs false
namespace Go.Proofs.Ytpepcfombibpeaa.Mv

theorem genAt_mark (T : List Nat) : ∀ (m : Mem) (d : Nat), genAt (effM m (markE m T)) d = genAt m d := by
  induction T with
  | nil => intro m d; rfl
  | cons b r ih =>
    intro m d
    cases hb : m b with
    | none => simp only [markE, hb]; exact ih m d
    | some x =>
      simp only [markE, hb, effM]
      have := ih (updM m b { x with frz := true }) d
      rw [markE_mark hb] at this
      rw [this]
      unfold genAt
      by_cases hd : b = d
      · subst hd
        rw [updM_same, hb]
      · rw [updM_ne _ _ hd]
theorem mark_ne (T : List Nat) : ∀ (m : Mem) (d : Nat), d ∉ T → effM m (markE m T) d = m d := by
  induction T with
  | nil => intro m d _; rfl
  | cons b r ih =>
    intro m d hd
    have hbd : b ≠ d := fun h => hd (by simp [h])
    have hdr : d ∉ r := fun h => hd (List.mem_cons_of_mem _ h)
    cases hb : m b with
    | none => simp only [markE, hb]; exact ih m d hdr
    | some x =>
      simp only [markE, hb, effM]
      have := ih (updM m b { x with frz := true }) d hdr
      rw [markE_mark hb] at this
      rw [this, updM_ne _ _ hbd]

section
variable {P : Program} {X : Ctx} {st : St} {a : Act} {w : World} {F : Nat → Prop} {ρ : Locs}

/-- Some cells of a box are written. -/
theorem Inv.store (h : Inv X st a w F ρ) {b i c : Nat} {x : Box} {l : Loc} {cs vs : List LV} {us : List Value} (hm : st.m b = some x) (hf : x.frz = false) (hk : x.kind ≠ .mp) (hl : ρ b = some l)
    (he : x.es[i]? = some cs) (hn : us.length = vs.length) (hc : c + vs.length ≤ cs.length) (h1 : ∀ u ∈ us, u.oneCell' = true)
    (hr : ∀ (j : Nat) u q, us[j]? = some u → vs[j]? = some q → CellR w F ρ st.m x.kind u q) :
    ∃ w', (storeCells ⟨l.blk, l.base + (i * x.sz + c), none⟩ us).run P w = .ok () w' ∧
      Inv X ⟨st.ts, updM st.m b { x with es := x.es.set i (cs.take c ++ vs ++ cs.drop (c + vs.length)) }⟩ a w' F ρ := by
  have hb := h.boxes b x hm
  unfold BoxOK at hb
  rw [hl] at hb
  have hb : CellsOK w F ρ st.m (some l) x := by
    cases hkk : x.kind with
    | var => rw [hkk] at hb; exact hb
    | slc => rw [hkk] at hb; exact hb
    | mp => exact absurd hkk hk
  obtain ⟨cur, t, g1, g2, g3, g4, g5⟩ := hb
  have hi : i < x.es.length := (List.getElem?_eq_some_iff.1 he).1
  have hcl : cs.length = x.sz := g4 cs (List.mem_of_getElem? he)
  have hfit := at_fit (sz := x.sz) hi
  have hfit2 : x.es.length * x.sz ≤ l.ext * x.sz := Nat.mul_le_mul_right _ g3
  have hst := run_storeCells_at P l.blk (l.base + (i * x.sz + c)) t us 0 cur w g1 (by omega) h1
  simp only [Nat.add_zero] at hst
  refine ⟨_, hst, ?_⟩
  have hlen : (cs.take c ++ vs ++ cs.drop (c + vs.length)).length = x.sz := by simp; omega
  refine h.write rfl rfl rfl (by simp) (fun k hk' hne => setRow_other w l.blk k _ (hne x l hm hf hl)) (fun k hk => rfl) hf (fun y hy => .inl ?_) (fun l' hl' => ?_) fun hcm hF => ?_
  · rw [hm] at hy
    injection hy with hy
    subst hy
    exact ⟨rfl, rfl, rfl, .inr (by simp), rfl⟩
  · rw [hl] at hl'
    injection hl' with hl'
    subst hl'
    exact ⟨by simp; exact (h.place b x l hm hl).1, .inr ⟨x, l, hm, hf, hl, rfl⟩⟩
  · have : CellsOK (w.setRow l.blk (cur.toList.take (l.base + (i * x.sz + c)) ++ us ++ cur.toList.drop (l.base + (i * x.sz + c) + us.length)).toArray) F ρ
        (updM st.m b { x with es := x.es.set i (cs.take c ++ vs ++ cs.drop (c + vs.length)) }) (some l) { x with es := x.es.set i (cs.take c ++ vs ++ cs.drop (c + vs.length)) } := by
      refine ⟨_, t, setRow_heap w l.blk cur _ t _ g1, by simp; omega, by simpa using g3, fun e he' => ?_, fun j e k q he' hq => ?_⟩
      · rcases List.mem_or_eq_of_mem_set he' with he' | he'
        · exact g4 e he'
        · rw [he']; exact hlen
      · have look : ∀ p, ((cur.toList.take (l.base + (i * x.sz + c)) ++ us ++ cur.toList.drop (l.base + (i * x.sz + c) + us.length)).toArray)[p]? =
            if l.base + (i * x.sz + c) ≤ p ∧ p < l.base + (i * x.sz + c) + us.length then us[p - (l.base + (i * x.sz + c))]? else cur[p]? := by
          intro p
          have htl : (cur.toList.take (l.base + (i * x.sz + c))).length = l.base + (i * x.sz + c) := by simp; omega
          rw [List.getElem?_toArray]
          by_cases hp : l.base + (i * x.sz + c) ≤ p ∧ p < l.base + (i * x.sz + c) + us.length
          · rw [if_pos hp, List.getElem?_append_left (by simp; omega), List.getElem?_append_right (by omega), htl]
          · rw [if_neg hp]
            by_cases hlt : p < l.base + (i * x.sz + c)
            · rw [List.getElem?_append_left (by simp; omega), List.getElem?_append_left (by omega), List.getElem?_take, if_pos hlt, Array.getElem?_toList]
            · rw [List.getElem?_append_right (by simp; omega), List.getElem?_drop]
              simp only [List.length_append, htl]
              rw [show l.base + (i * x.sz + c) + us.length + (p - (l.base + (i * x.sz + c) + us.length)) = p by omega, Array.getElem?_toList]
        change ∃ v, (List.toArray _)[l.base + (j * x.sz + k)]? = some v ∧ _
        rw [look]
        by_cases hj : j = i
        · subst hj
          rw [List.getElem?_set_self hi] at he'
          injection he' with he'
          subst he'
          have hk' : k < x.sz := by have := (List.getElem?_eq_some_iff.1 hq).1; omega
          have htc : (cs.take c).length = c := by simp; omega
          by_cases hin : c ≤ k ∧ k < c + vs.length
          · rw [List.getElem?_append_left (by simp; omega), List.getElem?_append_right (by omega), htc] at hq
            rw [if_pos (by omega), show l.base + (j * x.sz + k) - (l.base + (j * x.sz + c)) = k - c by omega]
            have hus : us[k - c]? = some (us[k - c]'(by omega)) := List.getElem?_eq_getElem _
            exact ⟨_, hus, (hr _ _ q hus hq).mono (fun _ h => h) hF hcm⟩
          · rw [if_neg (by omega)]
            have hq' : cs[k]? = some q := by
              by_cases hlt : k < c
              · rw [List.getElem?_append_left (by simp; omega), List.getElem?_append_left (by omega), List.getElem?_take, if_pos hlt] at hq
                exact hq
              · rw [List.getElem?_append_right (by simp; omega), List.getElem?_drop] at hq
                simp only [List.length_append, htc] at hq
                rwa [show c + vs.length + (k - (c + vs.length)) = k by omega] at hq
            obtain ⟨v, hv, hrel⟩ := g5 j cs k q he hq'
            exact ⟨v, hv, hrel.mono (fun _ h => h) hF hcm⟩
        · rw [List.getElem?_set_ne (Ne.symm hj)] at he'
          have hk' : k < x.sz := by
            have := (List.getElem?_eq_some_iff.1 hq).1
            rw [g4 e (List.mem_of_getElem? he')] at this
            exact this
          have := at_out (i' := i) (c' := 0) hk' hj
          obtain ⟨v, hv, hrel⟩ := g5 j e k q he' hq
          rw [if_neg (by omega)]
          exact ⟨v, hv, hrel.mono (fun _ h => h) hF hcm⟩
    exact BoxOK.of_cells hk (by rw [hl]; exact this)

theorem store_sound (h : Inv X st a w F ρ) {t : TypeId} {p y : Operand} {b g i c n : Nat} {x : Box} {cs vs : List LV} (ha : evalO st.ts p = .ref b g i c) (hm : st.m b = some x) (hg : x.gen = g) (hf : x.frz = false)
    (hk : x.kind = .var) (he : x.es[i]? = some cs) (hs : szT P t = some n) (hy : cellsL (evalO st.ts y) = vs) (hl : vs.length = n) (h1 : vs.all oneC = true) (hc : c + n ≤ cs.length)
    {o : Oper} (ho : o.op = .store t p y) : Sound P X st a w o .skip [(b, { x with es := x.es.set i (cs.take c ++ vs ++ cs.drop (c + n)) })] := by
  obtain ⟨dst, op, ty, pos, after, guard⟩ := o
  simp only at ho
  subst ho
  subst hy
  have hx := h.eval p
  rw [ha] at hx
  obtain ⟨hk0, l, hl', hx⟩ := hx.toRef hm hg
  obtain ⟨hn, hr⟩ := (h.eval y).cellsOf h1
  have q1 : ∀ u ∈ (a.eval y).cells.toList, u.oneCell' = true := fun u hu => by
    obtain ⟨j, hj, hju⟩ := List.mem_iff_getElem.1 hu
    have hj' : j < (a.eval y).cells.size := by simpa using hj
    have hu' : (a.eval y).cells[j]? = some u := by rw [Array.getElem?_eq_getElem hj', ← hju]; simp
    exact (hr j u _ hu' (List.getElem?_eq_getElem (by omega))).2
  obtain ⟨w', hrun, hI⟩ := h.store (P := P) (us := (a.eval y).cells.toList) (vs := cellsL (evalO st.ts y)) (c := c) hm hf hk0 hl' he (by simpa using hn) (by omega) q1 (fun j u q hu hq => by
    rw [hk]
    exact (hr j u q (by simpa using hu) hq).1)
  · rw [hl] at hI
    refine ⟨.skip, Go.undef, w', F, ρ, ?_, .inr ⟨rfl, rfl⟩, hI, .frz .skip⟩
    have hsz : (a.eval y).cells.size = n := by omega
    simp [execOp, hx, Instr.storeAt, Instr.sureAddr, storeVar, run_sizeT hs, hsz, hrun]

theorem storeP_sound (h : Inv X st a w F ρ) {t : TypeId} {p y : Operand} {b g i c n : Nat} {x : Box} {cs vs : List LV} {T : List Nat} (ha : evalO st.ts p = .ref b g i c) (hm : st.m b = some x) (hg : x.gen = g) (hf : x.frz = false)
    (hk : x.kind = .slc) (he : x.es[i]? = some cs) (hs : szT P t = some n) (hy : Frz st.m (.agg (cellsL (evalO st.ts y))) (.agg vs) T) (hb : b ∉ T) (hl : vs.length = n) (h1 : vs.all oneC = true) (hc : c + n ≤ cs.length)
    {o : Oper} (ho : o.op = .store t p y) : Sound P X st a w o .skip (markE st.m T ++ [(b, { x with es := x.es.set i (cs.take c ++ vs ++ cs.drop (c + n)) })]) := by
  obtain ⟨dst, op, ty, pos, after, guard⟩ := o
  simp only at ho
  subst ho
  have hx := h.eval p
  rw [ha] at hx
  obtain ⟨hk0, l, hl', hx⟩ := hx.toRef hm hg
  obtain ⟨F', hF1, hF2, hI0⟩ := h.mark T
  obtain ⟨hn, hr⟩ := frz_cells h (h.eval y) hy h1
  have hm' : (effM st.m (markE st.m T)) b = some x := by rw [mark_ne T _ _ hb]; exact hm
  have q1 : ∀ u ∈ (a.eval y).cells.toList, u.oneCell' = true := fun u hu => by
    obtain ⟨j, hj, hju⟩ := List.mem_iff_getElem.1 hu
    have hj' : j < (a.eval y).cells.size := by simpa using hj
    have hu' : (a.eval y).cells[j]? = some u := by rw [Array.getElem?_eq_getElem hj', ← hju]; simp
    exact (hr j u _ hu' (List.getElem?_eq_getElem (by omega))).2
  obtain ⟨w', hrun, hI⟩ := hI0.store (P := P) (us := (a.eval y).cells.toList) (vs := vs) (c := c) hm' hf hk0 hl' he (by simpa using hn) (by omega) q1 (fun j u q hu hq => by
    rw [hk]
    exact ((hr j u q (by simpa using hu) hq).1).mono (fun b hb => hF2 b hb hy.some) (fun _ _ => rfl))
  · rw [hl] at hI
    refine ⟨.skip, Go.undef, w', F', ρ, ?_, .inr ⟨rfl, rfl⟩, by rw [effM_append]; exact hI, .frz .skip⟩
    have hsz : (a.eval y).cells.size = n := by omega
    simp [execOp, hx, Instr.storeAt, Instr.sureAddr, storeVar, run_sizeT hs, hsz, hrun]

/-! ### Addresses -/
theorem offF_some {s : TypeId} {f k : Nat} (h : offF P s f = some k) : ∃ fs fd n, P.underlying s = some (.struct fs) ∧ fs[f]? = some fd ∧ fd.offset = k ∧ szT P fd.type = some n ∧ n ≠ 0 := by
  unfold offF at h
  cases hu : P.underlying s with
  | none => rw [hu] at h; cases h
  | some d =>
    rw [hu] at h
    cases d <;> try (simp at h; done)
    case struct fs =>
      simp only at h
      cases hf : fs[f]? with
      | none => rw [hf] at h; cases h
      | some fd =>
        rw [hf] at h
        simp only at h
        cases hn : szT P fd.type with
        | none => rw [hn] at h; cases h
        | some n =>
          rw [hn] at h
          simp only at h
          split at h
          · cases h
          · rename_i h0
            injection h with h
            exact ⟨fs, fd, n, rfl, hf, h, hn, h0⟩
theorem run_fieldAt {s : TypeId} {f k blk o : Nat} (h : offF P s f = some k) : (Instr.fieldAt s (.pointer (some ⟨blk, o, none⟩)) f).run P w = .ok (.pointer (some ⟨blk, o + k, none⟩)) w := by
  obtain ⟨fs, fd, n, hu, hf, hk, hn, h0⟩ := offF_some h
  simp [Instr.fieldAt, run_underlying hu, hf, Instr.sureAddr, fieldPlace, run_sizeT hn, h0, add_plain, hk]

theorem fieldAddr_sound (h : Inv X st a w F ρ) {s : TypeId} {x : Operand} {f b g i c k : Nat} {y : Box} (hx : evalO st.ts x = .ref b g i c) (hm : st.m b = some y) (hg : y.gen = g) (hof : offF P s f = some k)
    {o : Oper} (ho : o.op = .fieldAddr s x f) : Sound P X st a w o (.ref b g i (c + k)) [] := by
  obtain ⟨dst, op, ty, pos, after, guard⟩ := o
  simp only at ho
  subst ho
  have hv := h.eval x
  rw [hx] at hv
  obtain ⟨hk0, l, hl, hv⟩ := hv.toRef hm hg
  refine Sound.val h (val := .pointer (some ⟨l.blk, l.base + (i * y.sz + c) + k, none⟩)) ?_ (.ref rfl hm (by omega) fun _ => ⟨hk0, l, hl, by rw [Nat.add_assoc, Nat.add_assoc]⟩)
  simp only [execOp, Sem.run_bind, hv, run_fieldAt (P := P) hof, Result.andThen_ok]
  rfl
theorem fieldAddrF_sound (h : Inv X st a w F ρ) {s : TypeId} {x : Operand} {f i c k : Nat} {es : List (List LV)} (hx : evalO st.ts x = .fad es i c) (hof : offF P s f = some k)
    {o : Oper} (ho : o.op = .fieldAddr s x f) : Sound P X st a w o (.fad es i (c + k)) [] := by
  obtain ⟨dst, op, ty, pos, after, guard⟩ := o
  simp only at ho
  subst ho
  have hv := h.eval x
  rw [hx] at hv
  obtain ⟨blk, off, sz, val, hv, h1, h2, h3, h4⟩ := hv.toFad
  refine Sound.val h (val := .pointer (some ⟨blk, off + (i * sz + (c + k)), none⟩)) ?_ (.frz (.fad val h1 h2 h3 h4))
  simp only [execOp, Sem.run_bind, hv, run_fieldAt (P := P) hof, Result.andThen_ok]
  rw [show off + (i * sz + c) + k = off + (i * sz + (c + k)) by omega]
  rfl

theorem indexAddr_sound (h : Inv X st a w F ρ) {t e : TypeId} {x ix : Operand} {k : IntKind} {n : Int} {b g off len : Nat} {cap : Option Nat} {y : Box} (hx : evalO st.ts x = .own b g off len cap) (hi : evalO st.ts ix = .int k n)
    (hm : st.m b = some y) (hg : y.gen = g) (ht : sliceE P t = some e) (hs : szT P e = some y.sz) (h0 : 0 ≤ n) (h1 : n < (len : Int)) {o : Oper} (ho : o.op = .indexAddr t x ix) :
    Sound P X st a w o (.ref b g (off + n.toNat) 0) [] := by
  obtain ⟨dst, op, ty, pos, after, guard⟩ := o
  simp only at ho
  subst ho
  have hv := h.eval x
  rw [hx] at hv
  have hiv := h.eval ix
  rw [hi] at hiv
  obtain ⟨hk, hlen, hh⟩ := hv.toOwn hm hg
  cases hr : ρ b with
  | none =>
    exfalso
    have hb := h.boxes b y hm
    unfold BoxOK at hb
    rw [hk, hr] at hb
    have : y.es = [] := hb
    rw [this] at hlen
    simp at hlen
    omega
  | some l =>
    rw [hr] at hh
    obtain ⟨ad, cap', hv2, ha, hc, -⟩ := hh
    have had := ha (by omega)
    refine Sound.val h (val := .pointer (some ⟨l.blk, l.base + off * y.sz + n.toNat * y.sz, none⟩)) ?_ (.ref rfl hm (by omega) fun _ => ⟨by rw [hk]; simp, l, hr, by rw [Nat.add_mul]; simp [Nat.add_assoc]⟩)
    have hcond : 0 ≤ n ∧ n < (len : Int) := ⟨h0, h1⟩
    simp [execOp, hv2, hiv.int, Instr.indexAt, asIntOf, run_underlying (sliceE_some ht), had, hcond, run_sizeT hs, add_plain]
theorem indexAddrF_sound (h : Inv X st a w F ρ) {t e : TypeId} {x ix : Operand} {k : IntKind} {n : Int} {es : List (List LV)} {sz : Nat} (hx : evalO st.ts x = .sl es) (hi : evalO st.ts ix = .int k n)
    (ht : sliceE P t = some e) (hs : szT P e = some sz) (h0 : 0 ≤ n) (h1 : n < (es.length : Int)) (hz : ∀ e ∈ es, e.length = sz) {o : Oper} (ho : o.op = .indexAddr t x ix) :
    Sound P X st a w o (.fad es n.toNat 0) [] := by
  obtain ⟨dst, op, ty, pos, after, guard⟩ := o
  simp only at ho
  subst ho
  have hv := h.eval x
  rw [hx] at hv
  have hiv := h.eval ix
  rw [hi] at hiv
  obtain ⟨ad, len, cap, blk, off, sz', val, hv, g1, g2, g3, g4, g5, g6⟩ := hv.toSl
  have hpos : 0 < es.length := by omega
  have hsz : sz' = sz := by
    have hm : es[0] ∈ es := List.getElem_mem hpos
    rw [← g4 _ hm, hz _ hm]
  subst hsz
  obtain ⟨had, hF⟩ := g3 (by omega)
  refine Sound.val h (val := .pointer (some ⟨blk, off + n.toNat * sz', none⟩)) ?_ (.frz ?_)
  · have hcond : 0 ≤ n ∧ n < (len : Int) := ⟨h0, by omega⟩
    simp [execOp, hv, hiv.int, Instr.indexAt, asIntOf, run_underlying (sliceE_some ht), had, hcond, run_sizeT hs, add_plain]
  · have := RelF.fad (i := n.toNat) (c := 0) val hF g4 g5 g6
    simpa using this
theorem indexAddrA_sound (h : Inv X st a w F ρ) {t e : TypeId} {x ix : Operand} {k : IntKind} {n : Int} {b g i c len sz : Nat} {y : Box} (hx : evalO st.ts x = .ref b g i c) (hi : evalO st.ts ix = .int k n)
    (hm : st.m b = some y) (hg : y.gen = g) (ht : arrayE P t = some (len, e)) (hs : szT P e = some sz) (h0 : 0 ≤ n) (h1 : n < (len : Int)) {o : Oper} (ho : o.op = .indexAddr t x ix) :
    Sound P X st a w o (.ref b g i (c + n.toNat * sz)) [] := by
  obtain ⟨dst, op, ty, pos, after, guard⟩ := o
  simp only at ho
  subst ho
  have hv := h.eval x
  rw [hx] at hv
  have hiv := h.eval ix
  rw [hi] at hiv
  obtain ⟨hk0, l, hl, hv⟩ := hv.toRef hm hg
  refine Sound.val h (val := .pointer (some ⟨l.blk, l.base + (i * y.sz + c) + n.toNat * sz, none⟩)) ?_ (.ref rfl hm (by omega) fun _ => ⟨hk0, l, hl, by rw [Nat.add_assoc, Nat.add_assoc]⟩)
  have hcond : 0 ≤ n ∧ n < (len : Int) := ⟨h0, h1⟩
  simp [execOp, hv, hiv.int, Instr.indexAt, asIntOf, run_underlying (arrayE_some ht), Instr.sureAddr, hcond, run_sizeT hs, add_plain]
theorem indexAddrFA_sound (h : Inv X st a w F ρ) {t e : TypeId} {x ix : Operand} {k : IntKind} {n : Int} {es : List (List LV)} {i c len sz : Nat} (hx : evalO st.ts x = .fad es i c) (hi : evalO st.ts ix = .int k n)
    (ht : arrayE P t = some (len, e)) (hs : szT P e = some sz) (h0 : 0 ≤ n) (h1 : n < (len : Int)) {o : Oper} (ho : o.op = .indexAddr t x ix) :
    Sound P X st a w o (.fad es i (c + n.toNat * sz)) [] := by
  obtain ⟨dst, op, ty, pos, after, guard⟩ := o
  simp only at ho
  subst ho
  have hv := h.eval x
  rw [hx] at hv
  have hiv := h.eval ix
  rw [hi] at hiv
  obtain ⟨blk, off, sz', val, hv, g1, g2, g3, g4⟩ := hv.toFad
  refine Sound.val h (val := .pointer (some ⟨blk, off + (i * sz' + (c + n.toNat * sz)), none⟩)) ?_ (.frz (.fad val g1 g2 g3 g4))
  have hcond : 0 ≤ n ∧ n < (len : Int) := ⟨h0, h1⟩
  simp [execOp, hv, hiv.int, Instr.indexAt, asIntOf, run_underlying (arrayE_some ht), Instr.sureAddr, hcond, run_sizeT hs, add_plain]
  omega

/-! ### Slices of slices -/
theorem bndL_run {ρl : Operand → LV} {ρv : Operand → Value} (hr : ∀ x, RelL w F ρ st.m (ρv x) (ρl x)) {d n : Nat} {x : Option Operand} (h : bndL ρl d x = some n) :
    (x = none ∧ n = d) ∨ ∃ y k, x = some y ∧ ρv y = .int k (n : Int) := by
  cases x with
  | none =>
    simp only [bndL, Option.some.injEq] at h
    exact .inl ⟨rfl, h.symm⟩
  | some y =>
    simp only [bndL] at h
    split at h
    · rename_i k i hi
      split at h
      · rename_i h0
        injection h with h
        have := hr y
        rw [hi] at this
        refine .inr ⟨y, k, rfl, ?_⟩
        rw [this.int]
        congr 1
        omega
      · cases h
    · cases h

theorem bounds_run {ρl : Operand → LV} {ρv : Operand → Value} (hr : ∀ x, RelL w F ρ st.m (ρv x) (ρl x)) {isS : Bool} {len cap l hgh : Nat} {lo hi : Option Operand} (hl : bndL ρl 0 lo = some l) (hh : bndL ρl len hi = some hgh)
    (h1 : l ≤ hgh) (h2 : hgh ≤ cap) : (Instr.sliceBounds isS len cap (lo.map ρv) (hi.map ρv) none).run P w = .ok (l, hgh, cap) w := by
  have sb : ∀ (v : Value) (k : IntKind) (n y : Nat) (code : BoundsCode), v = .int k (n : Int) → n ≤ y → (Instr.sliceBound v y code).run P w = .ok n w := by
    intro v k n y code hv hn
    subst hv
    have : (0 : Int) ≤ (n : Int) ∧ (n : Int) ≤ (y : Int) := by omega
    simp [Instr.sliceBound, asIntOf, this]
  rcases bndL_run hr hl with ⟨rfl, rfl⟩ | ⟨y, k, rfl, hy⟩
  · rcases bndL_run hr hh with ⟨rfl, rfl⟩ | ⟨z, k', rfl, hz⟩
    · simp [Instr.sliceBounds]
    · simp [Instr.sliceBounds, sb _ _ _ _ _ hz h2]
  · rcases bndL_run hr hh with ⟨rfl, rfl⟩ | ⟨z, k', rfl, hz⟩
    · simp [Instr.sliceBounds, sb _ _ _ _ _ hy h1]
    · simp [Instr.sliceBounds, sb _ _ _ _ _ hy h1, sb _ _ _ _ _ hz h2]
theorem bounds3_run {ρl : Operand → LV} {ρv : Operand → Value} (hr : ∀ x, RelL w F ρ st.m (ρv x) (ρl x)) {isS : Bool} {len cap l hgh c : Nat} {lo hi : Option Operand} {mx : Operand} (hl : bndL ρl 0 lo = some l) (hhs : hi.isSome = true)
    (hh : bndL ρl len hi = some hgh) (hc : bndL ρl 0 (some mx) = some c) (h1 : l ≤ hgh) (h2 : hgh ≤ c) (h3 : c ≤ cap) : (Instr.sliceBounds isS len cap (lo.map ρv) (hi.map ρv) (some (ρv mx))).run P w = .ok (l, hgh, c) w := by
  have sb : ∀ (v : Value) (k : IntKind) (n y : Nat) (code : BoundsCode), v = .int k (n : Int) → n ≤ y → (Instr.sliceBound v y code).run P w = .ok n w := by
    intro v k n y code hv hn
    subst hv
    have : (0 : Int) ≤ (n : Int) ∧ (n : Int) ≤ (y : Int) := by omega
    simp [Instr.sliceBound, asIntOf, this]
  obtain ⟨km, hm⟩ : ∃ k, ρv mx = .int k (c : Int) := by
    rcases bndL_run hr hc with ⟨h, -⟩ | ⟨y, k, h, hy⟩
    · cases h
    · injection h with h
      subst h
      exact ⟨k, hy⟩
  rcases bndL_run hr hh with ⟨rfl, rfl⟩ | ⟨z, k', rfl, hz⟩
  · cases hhs
  rcases bndL_run hr hl with ⟨rfl, rfl⟩ | ⟨y, k, rfl, hy⟩
  · simp [Instr.sliceBounds, sb _ _ _ _ _ hm h3, sb _ _ _ _ _ hz h2]
  · simp [Instr.sliceBounds, sb _ _ _ _ _ hm h3, sb _ _ _ _ _ hz h2, sb _ _ _ _ _ hy h1]

theorem slice_sound (h : Inv X st a w F ρ) {t e : TypeId} {x : Operand} {lo hi : Option Operand} {b g off len l hgh : Nat} {cap : Option Nat} {y : Box} (hx : evalO st.ts x = .own b g off len cap) (hm : st.m b = some y) (hg : y.gen = g)
    (ht : sliceE P t = some e) (hs : szT P e = some y.sz) (hl : bndL (evalO st.ts) 0 lo = some l) (hh : bndL (evalO st.ts) len hi = some hgh) (h1 : l ≤ hgh) (h2 : off + hgh ≤ y.es.length) (h3 : ∀ c, cap = some c → hgh ≤ c)
    {o : Oper} (ho : o.op = .slice t x lo hi none) : Sound P X st a w o (.own b g (off + l) (hgh - l) (cap.map (· - l))) [] := by
  obtain ⟨dst, op, ty, pos, after, guard⟩ := o
  simp only at ho
  subst ho
  have hv := h.eval x
  rw [hx] at hv
  obtain ⟨hk, hlen, hv2⟩ := hv.toOwn hm hg
  cases hr : ρ b with
  | none =>
    rw [hr] at hv2
    obtain ⟨a0, hv2⟩ := hv2
    have hb := h.boxes b y hm
    unfold BoxOK at hb
    rw [hk, hr] at hb
    have hes : y.es = [] := hb
    rw [hes] at h2 hlen
    simp only [List.length_nil] at h2 hlen
    have e1 : off = 0 := by omega
    have e2 : hgh = 0 := by omega
    have e3 : l = 0 := by omega
    have e4 : len = 0 := by omega
    subst e1 e2 e3 e4
    refine Sound.val h (val := .slice a0 0 0) ?_ (.own rfl hm (by omega) fun _ => ⟨hk, by simp, by rw [hr]; exact ⟨a0, rfl⟩⟩)
    have hb := bounds_run (P := P) (w := w) (isS := true) (cap := 0) h.eval hl hh h1 (Nat.le_refl _)
    simp [execOp, Instr.sliceAt, Instr.slice, run_underlying (sliceE_some ht), hv2, hb, run_sizeT hs]
  | some lc =>
    rw [hr] at hv2
    obtain ⟨ad, cap', hv2, ha, hc, hcap⟩ := hv2
    have hbx := h.boxes b y hm
    unfold BoxOK at hbx
    rw [hk, hr] at hbx
    obtain ⟨cs, tt, g1, g2, g3, g4, g5⟩ := hbx
    have hcc : hgh ≤ cap' := by
      cases cap with
      | none => simp only at hcap; omega
      | some c => simp only at hcap; have := h3 c rfl; omega
    have hb := bounds_run (P := P) (w := w) (isS := true) (cap := cap') h.eval hl hh h1 hcc
    refine Sound.val h (val := .slice (if cap' = l then ad else ad.map (·.add (l * y.sz))) (hgh - l) (cap' - l)) ?_ (.own rfl hm (by omega) fun _ => ⟨hk, by omega, ?_⟩)
    · simp [execOp, Instr.sliceAt, Instr.slice, run_underlying (sliceE_some ht), hv2, hb, run_sizeT hs]
    · rw [hr]
      refine ⟨_, _, rfl, fun hp => ?_, by omega, ?_⟩
      · rw [if_neg (by omega), ha (by omega)]
        simp only [Option.map_some, add_plain]
        rw [Nat.add_mul]
        congr 2
        omega
      · cases cap with
        | none => simp only [Option.map_none] at hcap ⊢; omega
        | some c => simp only [Option.map_some] at hcap ⊢; omega
theorem slice3_sound (h : Inv X st a w F ρ) {t e : TypeId} {x : Operand} {lo hi : Option Operand} {mx : Operand} {b g off len l hgh c : Nat} {cap : Option Nat} {y : Box} (hx : evalO st.ts x = .own b g off len cap) (hm : st.m b = some y) (hg : y.gen = g)
    (ht : sliceE P t = some e) (hs : szT P e = some y.sz) (hl : bndL (evalO st.ts) 0 lo = some l) (hhs : hi.isSome = true) (hh : bndL (evalO st.ts) len hi = some hgh) (hc : bndL (evalO st.ts) 0 (some mx) = some c) (h1 : l ≤ hgh) (h2 : hgh ≤ c)
    (h3 : off + c ≤ y.es.length) (h4 : ∀ k, cap = some k → c ≤ k) {o : Oper} (ho : o.op = .slice t x lo hi (some mx)) : Sound P X st a w o (.own b g (off + l) (hgh - l) (some (c - l))) [] := by
  obtain ⟨dst, op, ty, pos, after, guard⟩ := o
  simp only at ho
  subst ho
  have hv := h.eval x
  rw [hx] at hv
  obtain ⟨hk, hlen, hv2⟩ := hv.toOwn hm hg
  have hbx := h.boxes b y hm
  unfold BoxOK at hbx
  rw [hk] at hbx
  cases hr : ρ b with
  | none =>
    rw [hr] at hv2 hbx
    obtain ⟨a0, hv2⟩ := hv2
    have hes : y.es = [] := hbx
    rw [hes] at h3 hlen
    simp only [List.length_nil] at h3 hlen
    have e1 : off = 0 := by omega
    have e2 : c = 0 := by omega
    have e3 : hgh = 0 := by omega
    have e4 : l = 0 := by omega
    have e5 : len = 0 := by omega
    subst e1 e2 e3 e4 e5
    refine Sound.val h (val := .slice a0 0 0) ?_ (.own rfl hm (by omega) fun _ => ⟨hk, by simp, by rw [hr]; exact ⟨a0, rfl⟩⟩)
    have hb := bounds3_run (P := P) (w := w) (isS := true) (cap := 0) h.eval hl hhs hh hc h1 h2 (Nat.le_refl _)
    simp [execOp, Instr.sliceAt, Instr.slice, run_underlying (sliceE_some ht), hv2, hb, run_sizeT hs]
  | some lc =>
    rw [hr] at hv2 hbx
    obtain ⟨ad, cap', hv2, ha, hcp, hcap⟩ := hv2
    obtain ⟨cs, tt, g1, g2, g3, g4, g5⟩ := hbx
    have hcc : c ≤ cap' := by
      cases cap with
      | none => simp only at hcap; omega
      | some k => simp only at hcap; have := h4 k rfl; omega
    have hb := bounds3_run (P := P) (w := w) (isS := true) (cap := cap') h.eval hl hhs hh hc h1 h2 hcc
    refine Sound.val h (val := .slice (if c = l then ad else ad.map (·.add (l * y.sz))) (hgh - l) (c - l)) ?_ (.own rfl hm (by omega) fun _ => ⟨hk, by omega, ?_⟩)
    · simp [execOp, Instr.sliceAt, Instr.slice, run_underlying (sliceE_some ht), hv2, hb, run_sizeT hs]
    · rw [hr]
      refine ⟨_, _, rfl, fun hp => ?_, by omega, ?_⟩
      · rw [if_neg (by omega), ha (by omega)]
        simp only [Option.map_some, add_plain]
        rw [Nat.add_mul]
        congr 2
        omega
      · simp only
        exact ⟨trivial, by omega⟩
theorem sliceF_sound (h : Inv X st a w F ρ) {t e : TypeId} {x : Operand} {lo hi : Option Operand} {es : List (List LV)} {l hgh sz : Nat} (hx : evalO st.ts x = .sl es) (ht : sliceE P t = some e) (hs : szT P e = some sz) (hz : ∀ e ∈ es, e.length = sz)
    (hl : bndL (evalO st.ts) 0 lo = some l) (hh : bndL (evalO st.ts) es.length hi = some hgh) (h1 : l ≤ hgh) (h2 : hgh ≤ es.length) {o : Oper} (ho : o.op = .slice t x lo hi none) :
    Sound P X st a w o (.sl ((es.drop l).take (hgh - l))) [] := by
  obtain ⟨dst, op, ty, pos, after, guard⟩ := o
  simp only at ho
  subst ho
  have hv := h.eval x
  rw [hx] at hv
  obtain ⟨ad, len, cap, blk, off, sz', val, hv, g1, g2, g3, g4, g5, g6⟩ := hv.toSl
  have hb := bounds_run (P := P) (w := w) (isS := true) (cap := cap) (len := len) h.eval hl (by rw [g1]; exact hh) h1 (by omega)
  have hmap : ∀ {i : Nat} {e : List LV}, ((es.drop l).take (hgh - l))[i]? = some e → es[l + i]? = some e := fun he => (drop_take_get he).2
  refine Sound.val h (val := .slice (if cap = l then ad else ad.map (·.add (l * sz))) (hgh - l) (cap - l)) ?_
    (.frz (.sl (blk := blk) (off := off + l * sz') (sz := sz') (fun i c => val (l + i) c) (by simp; omega) (by omega) (fun hp => ?_) (fun e he => g4 e (List.mem_of_mem_drop (List.mem_of_mem_take he))) (fun i e c q he hq => ?_) (fun i e c q he hq => g6 _ e c q (hmap he) hq)))
  · simp [execOp, Instr.sliceAt, Instr.slice, run_underlying (sliceE_some ht), hv, hb, run_sizeT hs]
  · have hpos : 0 < es.length := by omega
    have hsz : sz' = sz := by
      have hm : es[0] ∈ es := List.getElem_mem hpos
      rw [← g4 _ hm, hz _ hm]
    subst hsz
    obtain ⟨had, hF⟩ := g3 (by omega)
    rw [if_neg (by omega), had]
    exact ⟨by simp only [Option.map_some, add_plain], hF⟩
  · have := g5 _ e c q (hmap he) hq
    rw [Nat.add_mul] at this
    rw [show off + l * sz' + (i * sz' + c) = off + (l * sz' + i * sz' + c) by omega]
    exact this
theorem sliceN_sound (h : Inv X st a w F ρ) {t e : TypeId} {x : Operand} {lo hi : Option Operand} {l hgh sz : Nat} (hx : evalO st.ts x = .nils) (ht : sliceE P t = some e) (hs : szT P e = some sz)
    (hl : bndL (evalO st.ts) 0 lo = some l) (hh : bndL (evalO st.ts) 0 hi = some hgh) (h1 : l ≤ hgh) (h2 : hgh ≤ 0) {o : Oper} (ho : o.op = .slice t x lo hi none) :
    Sound P X st a w o .nils [] := by
  obtain ⟨dst, op, ty, pos, after, guard⟩ := o
  simp only at ho
  subst ho
  have hv := h.eval x
  rw [hx] at hv
  have hv := hv.nils
  have hb := bounds_run (P := P) (w := w) (isS := true) (cap := 0) (len := 0) h.eval hl hh h1 h2
  refine Sound.val h (val := .slice none 0 0) ?_ (.frz .nils)
  have e1 : hgh = 0 := by omega
  have e2 : l = 0 := by omega
  subst e1 e2
  simp [execOp, Instr.sliceAt, Instr.slice, run_underlying (sliceE_some ht), hv, hb, run_sizeT hs]
theorem sliceS_sound (h : Inv X st a w F ρ) {t : TypeId} {x : Operand} {lo hi : Option Operand} {s : ByteArray} {l hgh : Nat} (hx : evalO st.ts x = .str s) (ht : P.underlying t = some .string)
    (hl : bndL (evalO st.ts) 0 lo = some l) (hh : bndL (evalO st.ts) s.size hi = some hgh) (h1 : l ≤ hgh) (h2 : hgh ≤ s.size) {o : Oper} (ho : o.op = .slice t x lo hi none) :
    Sound P X st a w o (.str (s.extract l hgh)) [] := by
  obtain ⟨dst, op, ty, pos, after, guard⟩ := o
  simp only at ho
  subst ho
  have hv := h.eval x
  rw [hx] at hv
  have hv := hv.str
  have hb := bounds_run (P := P) (w := w) (isS := false) (cap := s.size) (len := s.size) h.eval hl hh h1 h2
  refine Sound.val h (val := .string (s.extract l hgh)) ?_ (.frz (.str _))
  simp [execOp, Instr.sliceAt, Instr.slice, run_underlying ht, hv, hb]
end
end Go.Proofs.Ytpepcfombibpeaa.Mv
