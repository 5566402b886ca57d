/- Regions whose operations may be done in any order that their edges allow. -/
import Derived.Test.YtpepcfombibpeaaMv14
set_option linter.unusedVariables false
set_option linter.unusedSimpArgs false
namespace Go.Proofs.Ytpepcfombibpeaa.Mv

/-- Writes, but for the marks of what is marked already. -/
def unmark (m : Mem) (e : List (Nat × Box)) : List (Nat × Box) := e.filter fun p => !(p.2.frz && match m p.1 with | some y => y.frz | none => false)
theorem unmark_names {m : Mem} {e : List (Nat × Box)} : ∀ n ∈ Wn (unmark m e), n ∈ Wn e := by
  intro n hn
  obtain ⟨p, hp, rfl⟩ := List.mem_map.1 hn
  exact List.mem_map.2 ⟨p, (List.mem_filter.1 hp).1, rfl⟩
theorem unmark_congr {m m' : Mem} {e : List (Nat × Box)} (h : ∀ n ∈ Wn e, m n = m' n) : unmark m e = unmark m' e := by
  unfold unmark
  refine List.filter_congr fun p hp => ?_
  rw [h p.1 (List.mem_map.2 ⟨p, hp, rfl⟩)]
theorem unmark_append (m : Mem) (e e' : List (Nat × Box)) : unmark m (e ++ e') = unmark m e ++ unmark m e' := List.filter_append ..
theorem unmark_new {m : Mem} {e : List (Nat × Box)} (h : ∀ p ∈ e, p.2.frz = false) : unmark m e = e :=
  List.filter_eq_self.2 fun p hp => by rw [h p hp]; rfl
theorem upd_eq {f : Mem} {b : Nat} {x : Box} (h : f b = some x) : updM f b x = f := by
  funext n
  by_cases hb : b = n
  · subst hb
    rw [updM_same, h]
  · exact updM_ne _ _ hb
theorem effM_unmarkE : ∀ (T : List Nat) {m f : Mem}, (∀ n x, m n = some x → f n = some x ∨ f n = some { x with frz := true }) → effM f (markE m T) = effM f (unmark m (markE m T))
  | [], _, _, _ => rfl
  | b :: r, m, f, h => by
    cases hx : m b with
    | none =>
      simp only [markE, hx]
      exact effM_unmarkE r h
    | some x =>
      simp only [markE, hx, effM]
      cases hf : x.frz with
      | true =>
        have hu : unmark m ((b, { x with frz := true }) :: markE m r) = unmark m (markE m r) := by
          simp [unmark, hx, hf]
        have hxe : ({ x with frz := true } : Box) = x := by cases x; simp at hf; simp [hf]
        have hfb : f b = some { x with frz := true } := by
          rcases h b x hx with h1 | h1
          · rw [h1, hxe]
          · exact h1
        rw [hu, upd_eq hfb]
        exact effM_unmarkE r h
      | false =>
        have hu : unmark m ((b, { x with frz := true }) :: markE m r) = (b, { x with frz := true }) :: unmark m (markE m r) := by
          simp [unmark, hx, hf]
        rw [hu]
        simp only [effM]
        refine effM_unmarkE r fun n y hy => ?_
        by_cases hb : b = n
        · subst hb
          rw [hx] at hy
          injection hy with hy
          subst hy
          exact .inr (updM_same _ _ _)
        · rw [updM_ne _ _ hb]
          exact h n y hy
/-- Marks first, and then what is not marked. -/
def MarksOK (m : Mem) (e : List (Nat × Box)) : Prop := ∃ T r, e = markE m T ++ r ∧ ∀ p ∈ r, p.2.frz = false
theorem MarksOK.new {m : Mem} {e : List (Nat × Box)} (h : ∀ p ∈ e, p.2.frz = false) : MarksOK m e := ⟨[], e, rfl, h⟩
theorem MarksOK.effM {m : Mem} {e : List (Nat × Box)} (h : MarksOK m e) : effM m e = effM m (unmark m e) := by
  obtain ⟨T, r, rfl, h⟩ := h
  rw [unmark_append, unmark_new h, effM_append, effM_append, effM_unmarkE T fun n x hx => .inl hx]
theorem OpR.marks {P : Program} {d : Nat} {ρ : Operand → LV} {m : Mem} {op : Op} {v : LV} {eff : List (Nat × Box)} {R : List Nat} (h : OpR P d ρ m op v eff R) : MarksOK m eff := by
  cases h <;> first | (refine MarksOK.new ?_; simp; done) | (refine MarksOK.new ?_; simp; assumption) | (refine ⟨_, _, rfl, ?_⟩; simp; done) | (refine ⟨_, _, rfl, ?_⟩; simp; assumption)
theorem OpR.names {P : Program} {d : Nat} {ρ : Operand → LV} {m : Mem} {op : Op} {v : LV} {eff : List (Nat × Box)} {R : List Nat} (h : OpR P d ρ m op v eff R) : ∀ n ∈ Wn eff, n ∈ R := by
  have key : ∀ {T : List Nat} {b : Nat} {x : Box}, ∀ n ∈ Wn (markE m T ++ [(b, x)]), n ∈ b :: T := by
    intro T b x n hn
    obtain ⟨p, hp, rfl⟩ := List.mem_map.1 hn
    rcases List.mem_append.1 hp with hp | hp
    · exact List.mem_cons_of_mem _ (markE_names _ (List.mem_map.2 ⟨p, hp, rfl⟩))
    · simp at hp
      simp [hp]
  cases h <;> first | exact key | simp [Wn]

theorem impC_new (m : Mem) (n : Nat) (l : LV) : ∀ p ∈ (impC m n l).2.1, p.2.frz = false := by
  cases l <;> simp [impC]
theorem impCs_new (m : Mem) : ∀ (ls : List LV) (n : Nat), ∀ p ∈ (impCs m n ls).2.1, p.2.frz = false
  | [], n => by simp [impCs]
  | l :: ls, n => by
    intro p hp
    rcases List.mem_append.1 hp with hp | hp
    · exact impC_new m n l p hp
    · exact impCs_new m ls _ p hp
theorem impV_new (m : Mem) (n : Nat) (l : LV) : ∀ p ∈ (impV m n l).2.1, p.2.frz = false := by
  cases l <;> first | exact impCs_new m _ n | exact impC_new m n _
theorem impVs_new (m : Mem) : ∀ (ls : List LV) (n : Nat), ∀ p ∈ (impVs m n ls).2.1, p.2.frz = false
  | [], n => by simp [impVs]
  | l :: ls, n => by
    intro p hp
    rcases List.mem_append.1 hp with hp | hp
    · exact impV_new m n l p hp
    · exact impVs_new m ls _ p hp
theorem impT_new (m : Mem) (n : Nat) (l : LV) : ∀ p ∈ (impT m n l).2, p.2.frz = false := by
  cases l <;> try exact impV_new m n _
  case tup vs => exact impVs_new m vs n
  case ptro cs =>
    intro p hp
    rcases List.mem_append.1 hp with hp | hp
    · exact impCs_new m cs _ p hp
    · simp at hp
      simp [hp]
theorem impC_loc {m m' : Mem} {n : Nat} {l : LV} (h : ∀ k ∈ Wn (impC m n l).2.1, m k = m' k) : impC m' n l = impC m n l := by
  cases l <;> first | rfl | (have := h n (by simp [impC, Wn]); simp [impC, genAt, this])
theorem wn_append (a b : List (Nat × Box)) : Wn (a ++ b) = Wn a ++ Wn b := List.map_append ..
theorem impCs_loc {m m' : Mem} : ∀ {ls : List LV} {n : Nat}, (∀ k ∈ Wn (impCs m n ls).2.1, m k = m' k) → impCs m' n ls = impCs m n ls
  | [], n, _ => rfl
  | l :: ls, n, h => by
    have h1 := impC_loc (m := m) (m' := m') (n := n) (l := l) fun k hk => h k (by rw [impCs, wn_append]; exact List.mem_append_left _ hk)
    have h2 := impCs_loc (m := m) (m' := m') (ls := ls) (n := (impC m n l).2.2) fun k hk => h k (by rw [impCs, wn_append]; exact List.mem_append_right _ hk)
    simp only [impCs, h1, h2]
theorem impV_loc {m m' : Mem} {n : Nat} {l : LV} (h : ∀ k ∈ Wn (impV m n l).2.1, m k = m' k) : impV m' n l = impV m n l := by
  cases l <;> try exact impC_loc h
  case agg cs => simp only [impV, impCs_loc (m := m) (m' := m') (ls := cs) (n := n) h]
theorem impVs_loc {m m' : Mem} : ∀ {ls : List LV} {n : Nat}, (∀ k ∈ Wn (impVs m n ls).2.1, m k = m' k) → impVs m' n ls = impVs m n ls
  | [], n, _ => rfl
  | l :: ls, n, h => by
    have h1 := impV_loc (m := m) (m' := m') (n := n) (l := l) fun k hk => h k (by rw [impVs, wn_append]; exact List.mem_append_left _ hk)
    have h2 := impVs_loc (m := m) (m' := m') (ls := ls) (n := (impV m n l).2.2) fun k hk => h k (by rw [impVs, wn_append]; exact List.mem_append_right _ hk)
    simp only [impVs, h1, h2]
theorem impT_loc {m m' : Mem} {n : Nat} {l : LV} (h : ∀ k ∈ Wn (impT m n l).2, m k = m' k) : impT m' n l = impT m n l := by
  cases l <;> try (have := impV_loc (m := m) (m' := m') h; simp only [impT, this]; done)
  case tup vs =>
    have := impVs_loc (m := m) (m' := m') (ls := vs) (n := n) h
    simp only [impT, this]
  case ptro cs =>
    have h1 := impCs_loc (m := m) (m' := m') (ls := cs) (n := n + 1) fun k hk => h k (by rw [impT, wn_append]; exact List.mem_append_left _ hk)
    have h2 := h n (by rw [impT, wn_append]; exact List.mem_append_right _ (by simp [Wn]))
    simp only [impT, h1, genAt, h2]

/-- What one operation comes to. -/
structure D where
  v : LV
  eff : List (Nat × Box)
  R : List Nat

inductive DOp (P : Program) (nb : Nat) (o : Oper) (st : St) : D → Prop
  | op {v : LV} {eff : List (Nat × Box)} {R : List Nat} (h : OpR P (nameO nb o) (evalO st.ts) st.m o.op v eff R) : DOp P nb o st ⟨v, unmark st.m eff, R⟩
  | call {g : Operand} {as : Array Operand} {ts : Array TypeId} {f : FuncId} {caps args : List LV} {T : List Nat} {res : LV} (ho : o.op = .call { callee := .value g, args := as, argTypes := ts }) (hg : evalO st.ts g = .fn f caps)
      (hf : Frz st.m (.agg (as.toList.map (evalO st.ts) ++ caps)) (.agg args) T) (hc : CallsV P f args res) (ht : topI res = true) :
      DOp P nb o st ⟨(impT (effM st.m (markE st.m T)) (nameO nb o) res).1, unmark st.m (markE st.m T) ++ (impT (effM st.m (markE st.m T)) (nameO nb o) res).2, T ++ Wn (impT (effM st.m (markE st.m T)) (nameO nb o) res).2⟩

theorem DOp.names {P : Program} {nb : Nat} {o : Oper} {st : St} {d : D} (h : DOp P nb o st d) : ∀ n ∈ Wn d.eff, n ∈ d.R := by
  cases h with
  | op h => exact fun n hn => h.names n (unmark_names n hn)
  | call ho hg hf hc ht =>
    intro n hn
    rw [wn_append] at hn
    rcases List.mem_append.1 hn with hn | hn
    · exact List.mem_append_left _ (markE_names n (unmark_names n hn))
    · exact List.mem_append_right _ hn
theorem DOp.wp {P : Program} {I : InlP} {nb : Nat} {o : Oper} {st : St} {d : D} (h : DOp P nb o st d) : WpOp P I nb o st fun v m => v = d.v ∧ m = effM st.m d.eff := by
  cases h with
  | op h => exact .op h ⟨rfl, h.marks.effM⟩
  | call ho hg hf hc ht =>
    refine .call ho hg hf hc fun r hr => ?_
    subst hr
    refine ⟨ht, rfl, ?_⟩
    show _ = effM st.m (_ ++ _)
    rw [effM_append, effM_unmarkE _ fun n x hx => .inl hx]
theorem DOp.loc {P : Program} {nb : Nat} {o : Oper} {st st' : St} {d : D} (h : DOp P nb o st d) (hs : ∀ x ∈ o.op.operands, evalO st.ts x = evalO st'.ts x) (hm : ∀ n ∈ d.R, st.m n = st'.m n) : DOp P nb o st' d := by
  cases h with
  | op h =>
    rw [unmark_congr fun n hn => hm n (h.names n hn)]
    exact .op (h.loc hs hm)
  | @call g as ts f caps args T res ho hg hf hc ht =>
    have hg' : evalO st'.ts g = .fn f caps := by rw [← hs g (by rw [ho]; simp [Op.operands, Call.operands])]; exact hg
    have ha : as.toList.map (evalO st.ts) = as.toList.map (evalO st'.ts) := List.map_congr_left fun x hx => hs x (by rw [ho]; simp [Op.operands, Call.operands]; exact .inr (by simpa using hx))
    have hT : ∀ n ∈ T, st.m n = st'.m n := fun n hn => hm n (List.mem_append_left _ hn)
    have hmk := markE_congr hT
    have himp : impT (effM st'.m (markE st'.m T)) (nameO nb o) res = impT (effM st.m (markE st.m T)) (nameO nb o) res := by
      rw [← hmk]
      exact impT_loc fun k hk => effM_at _ (hm k (List.mem_append_right _ hk))
    rw [ha] at hf
    have := DOp.call (nb := nb) ho hg' (hf.loc hT) hc ht
    rw [himp, ← hmk, ← unmark_congr fun n hn => hT n (markE_names n hn)] at this
    exact this

/-- One operation of a region, or none where its guard says no. -/
def Step (P : Program) (nb : Nat) (ops : Array Oper) (o : Oper) (st : St) (d : D) : Prop :=
  (wantedL ops o st.ts = some true ∧ DOp P nb o st d) ∨ (wantedL ops o st.ts = some false ∧ d = ⟨.skip, [], []⟩)
def nextS (o : Oper) (st : St) (d : D) : St := ⟨putS st.ts o.dst d.v, effM st.m d.eff⟩

theorem evalO_congr {f g : Slots} {x : Operand} (h : ∀ t, x = .tmp t → f t = g t) : evalO f x = evalO g x := by
  cases x <;> first | rfl | exact h _ rfl
theorem looks_eval {ops : Array Oper} {o : Oper} {f g : Slots} (h : ∀ t ∈ o.looksAt ops, f t = g t) : ∀ x ∈ o.op.operands, evalO f x = evalO g x := fun x hx =>
  evalO_congr fun t ht => h t (List.mem_append_left _ (List.mem_filterMap.2 ⟨x, by simpa using hx, by rw [ht]⟩))
theorem looks_wanted {ops : Array Oper} {o : Oper} {f g : Slots} (h : ∀ t ∈ o.looksAt ops, f t = g t) : wantedL ops o f = wantedL ops o g := by
  unfold wantedL
  cases hg : o.guard with
  | none => rfl
  | some jw =>
    obtain ⟨j, want⟩ := jw
    simp only
    cases hd : (ops[j]?).bind (·.dst) with
    | none => rfl
    | some t =>
      simp only
      rw [h t (List.mem_append_right _ (by simp [hg, hd]))]

theorem Step.loc {P : Program} {nb : Nat} {ops : Array Oper} {o : Oper} {st st' : St} {d : D} (h : Step P nb ops o st d) (hs : ∀ t ∈ o.looksAt ops, st.ts t = st'.ts t) (hm : ∀ n ∈ d.R, st.m n = st'.m n) : Step P nb ops o st' d := by
  rcases h with ⟨h1, h2⟩ | ⟨h1, h2⟩
  · exact .inl ⟨(looks_wanted hs) ▸ h1, h2.loc (looks_eval hs) hm⟩
  · exact .inr ⟨(looks_wanted hs) ▸ h1, h2⟩
theorem Step.names {P : Program} {nb : Nat} {ops : Array Oper} {o : Oper} {st : St} {d : D} (h : Step P nb ops o st d) : ∀ n ∈ Wn d.eff, n ∈ d.R := by
  rcases h with ⟨h1, h2⟩ | ⟨h1, h2⟩
  · exact h2.names
  · subst h2
    intro n hn
    cases hn

def freeB (ops : Array Oper) (o o' : Oper) (W R W' R' : List Nat) : Bool := o.apart ops o' && W.all (fun n => !R'.contains n) && W'.all (fun n => !R.contains n)

theorem putS_other {f : Slots} {d : Option Nat} {v : LV} {t : Nat} (h : d ≠ some t) : putS f d v t = f t := by
  cases d with
  | none => rfl
  | some i => exact updS_ne _ _ fun e => h (by rw [e])
theorem swap {P : Program} {nb : Nat} {ops : Array Oper} {o o' : Oper} {st : St} {d d' : D} (h : Step P nb ops o st d) (h' : Step P nb ops o' (nextS o st d) d') (hf : freeB ops o o' (Wn d.eff) d.R (Wn d'.eff) d'.R = true) :
    Step P nb ops o' st d' ∧ Step P nb ops o (nextS o' st d') d ∧ nextS o (nextS o' st d') d = nextS o' (nextS o st d) d' := by
  simp only [freeB, Bool.and_eq_true, List.all_eq_true, Bool.not_eq_true', List.contains_eq_mem, decide_eq_false_iff_not] at hf
  obtain ⟨⟨ha, hw⟩, hw'⟩ := hf
  obtain ⟨a1, a2, a3⟩ := Oper.apart_spec ha
  refine ⟨h'.loc (fun t ht => putS_other fun e => a1 t e ht) fun n hn => effM_out _ fun hn' => hw n hn' hn, h.loc (fun t ht => (putS_other fun e => a3 t e ht).symm) fun n hn => (effM_out _ fun hn' => hw' n hn' hn).symm, ?_⟩
  unfold nextS
  congr 1
  · funext t
    by_cases h1 : o.dst = some t
    · have h2 : o'.dst ≠ some t := a2 t h1
      rw [putS_other h2, h1]
      show updS _ t _ t = updS _ t _ t
      rw [updS_same, updS_same]
    · rw [putS_other h1]
      by_cases h2 : o'.dst = some t
      · rw [h2]
        show updS _ t _ t = updS _ t _ t
        rw [updS_same, updS_same]
      · show putS st.ts o'.dst d'.v t = putS (putS st.ts o.dst d.v) o'.dst d'.v t
        rw [putS_other h2, putS_other h2, putS_other h1]
  · funext n
    show effM (effM st.m d'.eff) d.eff n = effM (effM st.m d.eff) d'.eff n
    by_cases h1 : n ∈ Wn d.eff
    · rw [effM_in _ h1 (g := st.m), effM_out d'.eff fun h2 => hw' n h2 (h.names n h1)]
    · rw [effM_out d.eff h1]
      exact (effM_at _ (effM_out d.eff h1)).symm

def Run (P : Program) (nb : Nat) (ops : Array Oper) : List (Nat × D) → St → St → Prop
  | [], st, st' => st = st'
  | (i, d) :: r, st, st' => ∃ o, ops[i]? = some o ∧ Step P nb ops o st d ∧ Run P nb ops r (nextS o st d) st'

def FreeP (ops : Array Oper) (x y : Nat × D) : Prop := ∀ o o', ops[x.1]? = some o → ops[y.1]? = some o' → freeB ops o o' (Wn x.2.eff) x.2.R (Wn y.2.eff) y.2.R = true
theorem Run.pull {P : Program} {nb : Nat} {ops : Array Oper} {x : Nat × D} {l2 : List (Nat × D)} {st' : St} : ∀ {l1 : List (Nat × D)} {st : St}, Run P nb ops (l1 ++ x :: l2) st st' → (∀ y ∈ l1, FreeP ops y x) → Run P nb ops (x :: (l1 ++ l2)) st st'
  | [], _, h, _ => h
  | (i, d) :: r, st, h, hf => by
    obtain ⟨o, ho, hs, hr⟩ := h
    obtain ⟨o', ho', hs', hr'⟩ := Run.pull (l1 := r) hr fun y hy => hf y (List.mem_cons_of_mem _ hy)
    obtain ⟨s1, s2, s3⟩ := swap hs hs' (hf (i, d) (List.mem_cons_self ..) o o' ho ho')
    exact ⟨o', ho', s1, o, ho, s2, by rw [s3]; exact hr'⟩
end Go.Proofs.Ytpepcfombibpeaa.Mv
