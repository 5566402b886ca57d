/- The steps of a proof about one function: one lemma for each kind of operation. -/
import Derived.Test.YtpepcfombibpeaaMv17
set_option linter.unusedVariables false
set_option linter.unusedSimpArgs false
namespace Go.Proofs.Ytpepcfombibpeaa.Mv

/-- No calls in place. -/
def I0 : InlP := fun _ _ _ _ _ => False
theorem I0.sound (P : Program) : InlS P I0 := fun _ _ _ _ _ h => h.elim
def InlM (I : InlP) : Prop := ∀ nb f args m R R', (∀ v m, R v m → R' v m) → I nb f args m R → I nb f args m R'
theorem I0.mono : InlM I0 := fun _ _ _ _ _ _ _ h => h

theorem WpOps.mono {P : Program} {I : InlP} (hI : InlM I) {nb : Nat} {ops : Array Oper} {Q Q' : St → Prop} (h : ∀ s, Q s → Q' s) : ∀ {l : List Nat} {st : St}, WpOps P I nb ops Q l st → WpOps P I nb ops Q' l st
  | [], _, hw => h _ hw
  | i :: r, st, hw => by
    simp only [WpOps] at hw ⊢
    cases ho : ops[i]? with
    | none => rw [ho] at hw; exact WpOps.mono hI h hw
    | some o =>
      rw [ho] at hw
      simp only at hw ⊢
      cases hg : wantedL ops o st.ts with
      | none => rw [hg] at hw; exact hw.elim
      | some b =>
        rw [hg] at hw
        cases b with
        | true => exact WpOp.mono hI hw fun v m hv => WpOps.mono hI h hv
        | false => exact WpOps.mono hI h hw
theorem DOps.mono {P : Program} {nb : Nat} {ops : Array Oper} {Q Q' : St → Prop} (h : ∀ s, Q s → Q' s) : ∀ {l : List Nat} {acc : List (Nat × List Nat × List Nat)} {st : St}, DOps P nb ops Q l acc st → DOps P nb ops Q' l acc st
  | [], _, _, hw => ⟨hw.1, h _ hw.2⟩
  | i :: r, acc, st, hw => by
    simp only [DOps] at hw ⊢
    cases ho : ops[i]? with
    | none => rw [ho] at hw; exact hw.elim
    | some o =>
      rw [ho] at hw
      simp only at hw ⊢
      cases hg : wantedL ops o st.ts with
      | none => rw [hg] at hw; exact hw.elim
      | some b =>
        rw [hg] at hw
        cases b with
        | true =>
          obtain ⟨d, h1, h2⟩ := hw
          exact ⟨d, h1, DOps.mono h h2⟩
        | false => exact DOps.mono h hw
theorem Wp.mono {P : Program} {I : InlP} (hI : InlM I) {nb : Nat} : ∀ {c : Code} {Q Q' : Ex → St → Prop} {st : St}, (∀ e s, Q e s → Q' e s) → Wp P I nb c Q st → Wp P I nb c Q' st := by
  intro c
  induction c with
  | skip => intro Q Q' st h hw; exact h _ _ hw
  | region id ops d =>
    intro Q Q' st h hw
    cases d with
    | false => exact WpOps.mono hI (h _) hw
    | true =>
      obtain ⟨s, h1, h2⟩ := hw
      exact ⟨s, h1, DOps.mono (h _) h2⟩
  | seq x y ihx ihy =>
    intro Q Q' st h hw
    refine ihx (thenX.mono (fun s hs => ?_) h) hw
    obtain ⟨s', h1, h2⟩ := hs
    exact ⟨s', h1, ihy h h2⟩
  | cond c x y ihx ihy =>
    intro Q Q' st h hw
    obtain ⟨b, h1, h2, h3⟩ := hw
    exact ⟨b, h1, fun hb => ihx h (h2 hb), fun hb => ihy h (h3 hb)⟩
  | block id c ih =>
    intro Q Q' st h hw
    refine ih (fun e s hs => ?_) hw
    cases e with
    | normal => exact h _ _ hs
    | exit id' =>
      simp only [blockX] at hs ⊢
      split <;> simp_all
    | ret => exact h _ _ hs
  | loop c ih =>
    intro Q Q' st h hw X h1 h2
    exact hw X h1 fun s hs => h2 s (ih (thenX.mono (fun _ h => h) h) hs)
  | exit id => intro Q Q' st h hw; exact h _ _ hw
  | ret => intro Q Q' st h hw; exact h _ _ hw
  | _ => intro Q Q' st h hw; exact hw.elim

section
variable {P : Program} {I : InlP} {nb : Nat} {Q : Ex → St → Prop} {st : St}

/-! ### Code -/
theorem Wp.seqI {x y : Code} (h : Wp P I nb x (thenX (fun s => ∃ s', Weak s s' ∧ Wp P I nb y Q s') Q) st) : Wp P I nb (.seq x y) Q st := h
theorem goOn {y : Code} (h : Wp P I nb y Q st) : thenX (fun s => ∃ s', Weak s s' ∧ Wp P I nb y Q s') Q .normal st := ⟨st, Weak.refl st, h⟩
theorem goLess {y : Code} {f g : Slots} {m : Mem} (hl : LessS f g) (h : Wp P I nb y Q ⟨g, m⟩) : thenX (fun s => ∃ s', Weak s s' ∧ Wp P I nb y Q s') Q .normal ⟨f, m⟩ := ⟨_, hl.weak m, h⟩
/-- What is the same behind several ways, once. -/
theorem Wp.cut (hI : InlM I) {x y : Code} (A : St → Prop) (h : Wp P I nb x (thenX A Q) st) (hy : ∀ s, A s → Wp P I nb y Q s) : Wp P I nb (.seq x y) Q st :=
  Wp.mono (Q := thenX A Q) (Q' := thenX (fun s => ∃ s', Weak s s' ∧ Wp P I nb y Q s') Q) hI (fun e s hs => by cases e <;> first | exact ⟨s, Weak.refl s, hy s hs⟩ | exact hs) h
theorem Wp.condI {c : Operand} {x y : Code} {b : Bool} (hc : evalO st.ts c = .bool b) (h1 : b = true → Wp P I nb x Q st) (h2 : b = false → Wp P I nb y Q st) : Wp P I nb (.cond c x y) Q st := ⟨b, hc, h1, h2⟩
theorem Wp.condT {c : Operand} {x y : Code} (hc : evalO st.ts c = .bool true) (h : Wp P I nb x Q st) : Wp P I nb (.cond c x y) Q st := ⟨true, hc, fun _ => h, fun h => (by cases h)⟩
theorem Wp.condF {c : Operand} {x y : Code} (hc : evalO st.ts c = .bool false) (h : Wp P I nb y Q st) : Wp P I nb (.cond c x y) Q st := ⟨false, hc, fun h => (by cases h), fun _ => h⟩
theorem Wp.blockI {id : Nat} {c : Code} (h : Wp P I nb c (blockX id Q) st) : Wp P I nb (.block id c) Q st := h
theorem Wp.exitI {id : Nat} (h : Q (.exit id) st) : Wp P I nb (.exit id) Q st := h
theorem Wp.retI (h : Q .ret st) : Wp P I nb .ret Q st := h
theorem Wp.skipI (h : Q .normal st) : Wp P I nb .skip Q st := h
theorem thenX.exit {K : St → Prop} {id : Nat} (h : Q (.exit id) st) : thenX K Q (.exit id) st := h
theorem thenX.ret {K : St → Prop} (h : Q .ret st) : thenX K Q .ret st := h
theorem blockX.out {id : Nat} (h : Q .normal st) : blockX id Q (.exit id) st := by
  simp only [blockX, Nat.beq_refl]
  exact h
theorem blockX.on {id id' : Nat} (hn : Nat.beq id' id = false) (h : Q (.exit id') st) : blockX id Q (.exit id') st := by
  simp only [blockX, hn]
  exact h
theorem blockX.normal {id : Nat} (h : Q .normal st) : blockX id Q .normal st := h
theorem blockX.ret {id : Nat} (h : Q .ret st) : blockX id Q .ret st := h
theorem RetX.ret {rvs : List ResultVar} {R : LV → Prop} (h : Ret P rvs R st) : RetX P rvs R .ret st := h
theorem RetX.normal {rvs : List ResultVar} {R : LV → Prop} (h : Ret P rvs R st) : RetX P rvs R .normal st := h

/-- A round's end: the same shape again, and less to do. -/
def Again {α : Type} (A : α → St → Prop) (μ : α → Nat) (a : α) (s : St) : Prop := ∃ a', μ a' < μ a ∧ ∃ s', Weak s s' ∧ A a' s'
theorem Wp.loopI (hI : InlM I) {c : Code} {α : Type} (A : α → St → Prop) (μ : α → Nat) (a0 : α) (h0 : ∃ s', Weak st s' ∧ A a0 s') (hr : ∀ a s, A a s → Wp P I nb c (thenX (Again A μ a) Q) s) : Wp P I nb (.loop c) Q st := by
  intro X hX1 hX2
  have key : ∀ n a s, μ a = n → A a s → X s := by
    intro n
    induction n using Nat.strongRecOn with
    | _ n ih =>
      intro a s hn ha
      refine hX2 s (Wp.mono hI (thenX.mono (fun s1 hs1 => ?_) fun _ _ h => h) (hr a s ha))
      obtain ⟨a', h1, s', h2, h3⟩ := hs1
      exact hX1 s1 s' h2 (ih (μ a') (hn ▸ h1) a' s' rfl h3)
  obtain ⟨s', h1, h2⟩ := h0
  exact hX1 st s' h1 (key _ a0 s' rfl h2)

/-! ### Operations -/
/-- The rest of a region, operation by operation; 'd': in any order that its edges allow. -/
def GL (P : Program) (I : InlP) (nb : Nat) (ops : Array Oper) (K : St → Prop) (d : Bool) : List Oper → Nat → List (Nat × List Nat × List Nat) → St → Prop
  | [], _, acc, st => (d = true → (edgesOK ops (BB ops) && pairsOK ops (BB ops) acc) = true) ∧ K st
  | o :: r, i, acc, st =>
    match wantedL ops o st.ts with
    | some true =>
      match d with
      | false => WpOp P I nb o st fun v m => GL P I nb ops K d r (i + 1) acc ⟨putS st.ts o.dst v, m⟩
      | true => ∃ dd, DOp P nb o st dd ∧ GL P I nb ops K d r (i + 1) ((i, Wn dd.eff, dd.R) :: acc) ⟨putS st.ts o.dst dd.v, effM st.m dd.eff⟩
    | some false => GL P I nb ops K d r (i + 1) ((i, [], []) :: acc) ⟨putS st.ts o.dst .skip, st.m⟩
    | none => False
variable {ops : Array Oper} {K : St → Prop} {r : List Oper} {ts : Slots} {m : Mem} {t : Nat} {ty : TypeId} {pos : String} {af : Array Edge} {d : Bool} {i : Nat} {acc : List (Nat × List Nat × List Nat)}
theorem GL.accI (hI : InlM I) : ∀ {r : List Oper} {i i' : Nat} {acc acc' : List (Nat × List Nat × List Nat)} {st : St}, GL P I nb ops K false r i acc st → GL P I nb ops K false r i' acc' st
  | [], _, _, _, _, _, h => ⟨fun h => (by cases h), h.2⟩
  | o :: r, i, i', acc, acc', st, h => by
    simp only [GL] at h ⊢
    cases hw : wantedL ops o st.ts with
    | none => rw [hw] at h; exact h.elim
    | some b =>
      rw [hw] at h
      cases b with
      | true => exact WpOp.mono hI h fun v m hv => GL.accI hI hv
      | false => exact GL.accI hI h
theorem GL.opsF (hI : InlM I) : ∀ {l : List Oper} {k : Nat} {acc : List (Nat × List Nat × List Nat)} {st : St}, (∀ i, l[i]? = ops[k + i]?) → GL P I nb ops K false l k acc st → WpOps P I nb ops K (List.range' k l.length) st
  | [], _, _, _, _, h => h.2
  | o :: r, k, acc, st, hi, h => by
    have h0 : ops[k]? = some o := by simpa using (hi 0).symm
    have hr : ∀ i, r[i]? = ops[k + 1 + i]? := fun i => by have := hi (i + 1); simpa [Nat.add_assoc, Nat.add_comm 1 i] using this
    rw [List.length_cons, List.range'_succ]
    simp only [WpOps, h0, GL] at h ⊢
    cases hw : wantedL ops o st.ts with
    | none => rw [hw] at h; exact h.elim
    | some b =>
      rw [hw] at h
      cases b with
      | true => exact WpOp.mono hI h fun v m hv => GL.opsF hI hr hv
      | false => exact GL.opsF hI hr h
theorem GL.opsD : ∀ {l : List Oper} {k : Nat} {acc : List (Nat × List Nat × List Nat)} {st : St}, (∀ i, l[i]? = ops[k + i]?) → GL P I nb ops K true l k acc st → DOps P nb ops K (List.range' k l.length) acc st
  | [], _, _, _, _, h => ⟨h.1 rfl, h.2⟩
  | o :: r, k, acc, st, hi, h => by
    have h0 : ops[k]? = some o := by simpa using (hi 0).symm
    have hr : ∀ i, r[i]? = ops[k + 1 + i]? := fun i => by have := hi (i + 1); simpa [Nat.add_assoc, Nat.add_comm 1 i] using this
    rw [List.length_cons, List.range'_succ]
    simp only [DOps, h0, GL] at h ⊢
    cases hw : wantedL ops o st.ts with
    | none => rw [hw] at h; exact h.elim
    | some b =>
      rw [hw] at h
      cases b with
      | true =>
        obtain ⟨dd, h1, h2⟩ := h
        exact ⟨dd, h1, GL.opsD hr h2⟩
      | false => exact GL.opsD hr h
theorem Wp.regI (hI : InlM I) {id : Nat} {ops : Array Oper} (h : GL P I nb ops (Q .normal) false ops.toList 0 [] st) : Wp P I nb (.region id ops false) Q st := by
  have := GL.opsF hI (k := 0) (fun i => by simp) h
  rw [← List.range_eq_range'] at this
  simpa [Wp] using this
theorem Wp.regD {id : Nat} {ops : Array Oper} (h : GL P I nb ops (Q .normal) true ops.toList 0 [] st) : Wp P I nb (.region id ops true) Q st := by
  have := GL.opsD (k := 0) (fun i => by simp) h
  rw [← List.range_eq_range'] at this
  exact ⟨st, Weak.refl st, by simpa using this⟩
theorem Wp.premark {id b : Nat} {x : Box} {ops : Array Oper} (hm : m b = some x) (h : Wp P I nb (.region id ops true) Q ⟨ts, updM m b ⟨x.gen, true, x.kind, x.sz, x.es⟩⟩) : Wp P I nb (.region id ops true) Q ⟨ts, m⟩ := by
  obtain ⟨s, h1, h2⟩ := h
  refine ⟨s, Weak.trans (Weak.mark ts m [b]) ?_, h2⟩
  simp only [markE, hm, effM]
  exact h1

theorem GL.doneF (h : K st) : GL P I nb ops K false [] i acc st := ⟨fun h => (by cases h), h⟩
theorem GL.doneT (hc : (edgesOK ops (BB ops) && pairsOK ops (BB ops) acc) = true) (h : K st) : GL P I nb ops K true [] i acc st := ⟨fun _ => hc, h⟩
theorem GL.step (hI : InlM I) {op : Op} {v : LV} {eff : List (Nat × Box)} {R : List Nat} (h : OpR P (nb + 64 * t) (evalO ts) m op v eff R) (hf : ∀ p ∈ eff, p.2.frz = false) (k : GL P I nb ops K d r (i + 1) ((i, Wn eff, R) :: acc) ⟨updS ts t v, effM m eff⟩) :
    GL P I nb ops K d (⟨some t, op, ty, pos, af, none⟩ :: r) i acc ⟨ts, m⟩ := by
  cases d with
  | false =>
    simp only [GL, wantedL]
    exact .op (o := ⟨some t, op, ty, pos, af, none⟩) h (GL.accI hI k)
  | true =>
    simp only [GL, wantedL]
    refine ⟨_, .op (o := ⟨some t, op, ty, pos, af, none⟩) h, ?_⟩
    simp only [unmark_new hf]
    exact k
theorem GL.stepN (hI : InlM I) {op : Op} {v : LV} {eff : List (Nat × Box)} {R : List Nat} (h : OpR P (nb + 64 * 4000) (evalO ts) m op v eff R) (hf : ∀ p ∈ eff, p.2.frz = false) (k : GL P I nb ops K d r (i + 1) ((i, Wn eff, R) :: acc) ⟨ts, effM m eff⟩) :
    GL P I nb ops K d (⟨none, op, ty, pos, af, none⟩ :: r) i acc ⟨ts, m⟩ := by
  cases d with
  | false =>
    simp only [GL, wantedL]
    exact .op (o := ⟨none, op, ty, pos, af, none⟩) h (GL.accI hI k)
  | true =>
    simp only [GL, wantedL]
    refine ⟨_, .op (o := ⟨none, op, ty, pos, af, none⟩) h, ?_⟩
    simp only [unmark_new hf]
    exact k
theorem GL.stepP (hI : InlM I) {op : Op} {v : LV} {R : List Nat} (h : OpR P (nb + 64 * t) (evalO ts) m op v [] R) (k : GL P I nb ops K d r (i + 1) ((i, [], R) :: acc) ⟨updS ts t v, m⟩) :
    GL P I nb ops K d (⟨some t, op, ty, pos, af, none⟩ :: r) i acc ⟨ts, m⟩ := .step hI h (by simp) k
theorem GL.guardT {dst : Option Nat} {op : Op} {g : Nat × Bool} (hg : wantedL ops ⟨dst, op, ty, pos, af, some g⟩ ts = some true) (k : GL P I nb ops K d (⟨dst, op, ty, pos, af, none⟩ :: r) i acc ⟨ts, m⟩) : GL P I nb ops K d (⟨dst, op, ty, pos, af, some g⟩ :: r) i acc ⟨ts, m⟩ := by
  cases d with
  | false =>
    simp only [GL, hg]
    simp only [GL, wantedL] at k
    cases k with
    | op h k => exact .op (o := ⟨dst, op, ty, pos, af, some g⟩) h k
    | call ho hg hf hc k => exact .call (o := ⟨dst, op, ty, pos, af, some g⟩) ho hg hf hc k
    | callF ho hg hf hc k => exact .callF (o := ⟨dst, op, ty, pos, af, some g⟩) ho hg hf hc k
    | inl ho hg k => exact .inl (o := ⟨dst, op, ty, pos, af, some g⟩) ho hg k
  | true =>
    simp only [GL, hg]
    simp only [GL, wantedL] at k
    obtain ⟨dd, h1, h2⟩ := k
    refine ⟨dd, ?_, h2⟩
    cases h1 with
    | op h => exact .op (o := ⟨dst, op, ty, pos, af, some g⟩) h
    | call ho hg hf hc ht => exact .call (o := ⟨dst, op, ty, pos, af, some g⟩) ho hg hf hc ht
theorem GL.guardF {op : Op} {g : Nat × Bool} (hg : wantedL ops ⟨some t, op, ty, pos, af, some g⟩ ts = some false) (k : GL P I nb ops K d r (i + 1) ((i, [], []) :: acc) ⟨updS ts t .skip, m⟩) : GL P I nb ops K d (⟨some t, op, ty, pos, af, some g⟩ :: r) i acc ⟨ts, m⟩ := by
  simp only [GL, hg]
  exact k
theorem GL.guardFN {op : Op} {g : Nat × Bool} (hg : wantedL ops ⟨none, op, ty, pos, af, some g⟩ ts = some false) (k : GL P I nb ops K d r (i + 1) ((i, [], []) :: acc) ⟨ts, m⟩) : GL P I nb ops K d (⟨none, op, ty, pos, af, some g⟩ :: r) i acc ⟨ts, m⟩ := by
  simp only [GL, hg]
  exact k

theorem GL.move (hI : InlM I) {x : Operand} {v : LV} (hx : evalO ts x = v) (k : GL P I nb ops K d r (i + 1) ((i, [], []) :: acc) ⟨updS ts t v, m⟩) : GL P I nb ops K d (⟨some t, .move x, ty, pos, af, none⟩ :: r) i acc ⟨ts, m⟩ := .stepP hI .move (hx ▸ k)
theorem GL.assign (hI : InlM I) {x : Operand} {v : LV} (hx : evalO ts x = v) (k : GL P I nb ops K d r (i + 1) ((i, [], []) :: acc) ⟨updS ts t v, m⟩) : GL P I nb ops K d (⟨some t, .assign x, ty, pos, af, none⟩ :: r) i acc ⟨ts, m⟩ := .stepP hI .assign (hx ▸ k)
theorem GL.pick (hI : InlM I) {c a b : Operand} {z : Bool} {v : LV} (hc : evalO ts c = .bool z) (hx : cond z (evalO ts a) (evalO ts b) = v) (k : GL P I nb ops K d r (i + 1) ((i, [], []) :: acc) ⟨updS ts t v, m⟩) : GL P I nb ops K d (⟨some t, .pick c a b, ty, pos, af, none⟩ :: r) i acc ⟨ts, m⟩ := .stepP hI (.pick hc) (hx ▸ k)
theorem GL.bin (hI : InlM I) {op : BinOp} {xt yt : TypeId} {x y : Operand} {v : LV} (h : binL P op xt (evalO ts x) (evalO ts y) = some v) (k : GL P I nb ops K d r (i + 1) ((i, [], []) :: acc) ⟨updS ts t v, m⟩) : GL P I nb ops K d (⟨some t, .binOp op xt x y yt, ty, pos, af, none⟩ :: r) i acc ⟨ts, m⟩ := .stepP hI (.bin h) (k)
theorem GL.un (hI : InlM I) {op : UnOp} {xt : TypeId} {x : Operand} {v : LV} (h : unL op (evalO ts x) = some v) (k : GL P I nb ops K d r (i + 1) ((i, [], []) :: acc) ⟨updS ts t v, m⟩) : GL P I nb ops K d (⟨some t, .unOp op xt x, ty, pos, af, none⟩ :: r) i acc ⟨ts, m⟩ := .stepP hI (.un h) (k)
theorem GL.load (hI : InlM I) {e : TypeId} {a : Operand} {b g j c : Nat} {x : Box} {cs : List LV} {v : LV} (ht : isAggT P e = some false) (ha : evalO ts a = .ref b g j c) (hm : m b = some x) (hg : x.gen = g) (hk : x.kind ≠ .mp) (he : x.es[j]? = some cs) (hv : cs[c]? = some v) (k : GL P I nb ops K d r (i + 1) ((i, [], [b]) :: acc) ⟨updS ts t v, m⟩) : GL P I nb ops K d (⟨some t, .load e a, ty, pos, af, none⟩ :: r) i acc ⟨ts, m⟩ := .stepP hI (.load ha hm hg hk he ht hv) (k)
theorem GL.loadA (hI : InlM I) {e : TypeId} {a : Operand} {b g j c n : Nat} {x : Box} {cs vs : List LV} (ht : isAggT P e = some true) (ha : evalO ts a = .ref b g j c) (hm : m b = some x) (hg : x.gen = g) (hk : x.kind ≠ .mp) (he : x.es[j]? = some cs) (hs : szT P e = some n) (hc : c + n ≤ cs.length) (hv : (cs.drop c).take n = vs) (k : GL P I nb ops K d r (i + 1) ((i, [], [b]) :: acc) ⟨updS ts t (.agg vs), m⟩) : GL P I nb ops K d (⟨some t, .load e a, ty, pos, af, none⟩ :: r) i acc ⟨ts, m⟩ := .stepP hI (.loadA ha hm hg hk he ht hs hc) (hv ▸ k)
theorem GL.loadF (hI : InlM I) {e : TypeId} {a : Operand} {es : List (List LV)} {j c : Nat} {cs : List LV} {v : LV} (ht : isAggT P e = some false) (ha : evalO ts a = .fad es j c) (he : es[j]? = some cs) (hv : cs[c]? = some v) (k : GL P I nb ops K d r (i + 1) ((i, [], []) :: acc) ⟨updS ts t v, m⟩) : GL P I nb ops K d (⟨some t, .load e a, ty, pos, af, none⟩ :: r) i acc ⟨ts, m⟩ := .stepP hI (.loadF ha he ht hv) (k)
theorem GL.loadFA (hI : InlM I) {e : TypeId} {a : Operand} {es : List (List LV)} {j c n : Nat} {cs vs : List LV} (ht : isAggT P e = some true) (ha : evalO ts a = .fad es j c) (he : es[j]? = some cs) (hs : szT P e = some n) (hc : c + n ≤ cs.length) (hv : (cs.drop c).take n = vs) (k : GL P I nb ops K d r (i + 1) ((i, [], []) :: acc) ⟨updS ts t (.agg vs), m⟩) : GL P I nb ops K d (⟨some t, .load e a, ty, pos, af, none⟩ :: r) i acc ⟨ts, m⟩ := .stepP hI (.loadFA ha he ht hs hc) (hv ▸ k)
theorem GL.fieldAddr (hI : InlM I) {s : TypeId} {x : Operand} {f b g j c o c' : Nat} {y : Box} (ho : offF P s f = some o) (hx : evalO ts x = .ref b g j c) (hm : m b = some y) (hg : y.gen = g) (hc : c + o = c') (k : GL P I nb ops K d r (i + 1) ((i, [], [b]) :: acc) ⟨updS ts t (.ref b g j c'), m⟩) : GL P I nb ops K d (⟨some t, .fieldAddr s x f, ty, pos, af, none⟩ :: r) i acc ⟨ts, m⟩ := .stepP hI (.fieldAddr hx hm hg ho) (hc ▸ k)
theorem GL.fieldAddrF (hI : InlM I) {s : TypeId} {x : Operand} {f j c o c' : Nat} {es : List (List LV)} (ho : offF P s f = some o) (hx : evalO ts x = .fad es j c) (hc : c + o = c') (k : GL P I nb ops K d r (i + 1) ((i, [], []) :: acc) ⟨updS ts t (.fad es j c'), m⟩) : GL P I nb ops K d (⟨some t, .fieldAddr s x f, ty, pos, af, none⟩ :: r) i acc ⟨ts, m⟩ := .stepP hI (.fieldAddrF hx ho) (hc ▸ k)
theorem GL.indexAddr (hI : InlM I) {st e : TypeId} {x ix : Operand} {kk : IntKind} {n : Int} {b g off len j : Nat} {cap : Option Nat} {y : Box} {sz : Nat} (ht : sliceE P st = some e) (hs : szT P e = some sz) (hx : evalO ts x = .own b g off len cap) (hi : evalO ts ix = .int kk n) (hm : m b = some y) (hg : y.gen = g) (hk : y.kind = .slc) (hz : y.sz = sz) (h0 : 0 ≤ n) (h1 : n < (len : Int)) (hj : off + n.toNat = j) (k : GL P I nb ops K d r (i + 1) ((i, [], [b]) :: acc) ⟨updS ts t (.ref b g j 0), m⟩) : GL P I nb ops K d (⟨some t, .indexAddr st x ix, ty, pos, af, none⟩ :: r) i acc ⟨ts, m⟩ := .stepP hI (.indexAddr hx hi hm hg hk ht (hz ▸ hs) h0 h1) (hj ▸ k)
theorem GL.indexAddrF (hI : InlM I) {st e : TypeId} {x ix : Operand} {kk : IntKind} {n : Int} {es : List (List LV)} {sz j : Nat} (ht : sliceE P st = some e) (hs : szT P e = some sz) (hx : evalO ts x = .sl es) (hi : evalO ts ix = .int kk n) (h0 : 0 ≤ n) (h1 : n < (es.length : Int)) (hz : ∀ e ∈ es, e.length = sz) (hj : n.toNat = j) (k : GL P I nb ops K d r (i + 1) ((i, [], []) :: acc) ⟨updS ts t (.fad es j 0), m⟩) : GL P I nb ops K d (⟨some t, .indexAddr st x ix, ty, pos, af, none⟩ :: r) i acc ⟨ts, m⟩ := .stepP hI (.indexAddrF hx hi ht hs h0 h1 hz) (hj ▸ k)
theorem GL.indexAddrA (hI : InlM I) {st e : TypeId} {x ix : Operand} {kk : IntKind} {n : Int} {b g j c len sz c' : Nat} {y : Box} (ht : arrayE P st = some (len, e)) (hs : szT P e = some sz) (hx : evalO ts x = .ref b g j c) (hi : evalO ts ix = .int kk n) (hm : m b = some y) (hg : y.gen = g) (h0 : 0 ≤ n) (h1 : n < (len : Int)) (hc : c + n.toNat * sz = c') (k : GL P I nb ops K d r (i + 1) ((i, [], [b]) :: acc) ⟨updS ts t (.ref b g j c'), m⟩) : GL P I nb ops K d (⟨some t, .indexAddr st x ix, ty, pos, af, none⟩ :: r) i acc ⟨ts, m⟩ := .stepP hI (.indexAddrA hx hi hm hg ht hs h0 h1) (hc ▸ k)
theorem GL.indexAddrFA (hI : InlM I) {st e : TypeId} {x ix : Operand} {kk : IntKind} {n : Int} {es : List (List LV)} {j c len sz c' : Nat} (ht : arrayE P st = some (len, e)) (hs : szT P e = some sz) (hx : evalO ts x = .fad es j c) (hi : evalO ts ix = .int kk n) (h0 : 0 ≤ n) (h1 : n < (len : Int)) (hc : c + n.toNat * sz = c') (k : GL P I nb ops K d r (i + 1) ((i, [], []) :: acc) ⟨updS ts t (.fad es j c'), m⟩) : GL P I nb ops K d (⟨some t, .indexAddr st x ix, ty, pos, af, none⟩ :: r) i acc ⟨ts, m⟩ := .stepP hI (.indexAddrFA hx hi ht hs h0 h1) (hc ▸ k)
theorem GL.extract (hI : InlM I) {x : Operand} {j : Nat} {vs : List LV} {v : LV} (hx : evalO ts x = .tup vs) (hv : vs[j]? = some v) (k : GL P I nb ops K d r (i + 1) ((i, [], []) :: acc) ⟨updS ts t v, m⟩) : GL P I nb ops K d (⟨some t, .extract x j, ty, pos, af, none⟩ :: r) i acc ⟨ts, m⟩ := .stepP hI (.extract hx hv) (k)
theorem GL.build (hI : InlM I) {e : TypeId} {ps : Array (Nat × Operand)} {v : LV} (h : buildL P e (ps.toList.map fun (i, x) => (i, evalO ts x)) = some v) (hp : (ps.toList.all fun p => (cellsL (evalO ts p.2)).all oneC) = true) (k : GL P I nb ops K d r (i + 1) ((i, [], []) :: acc) ⟨updS ts t v, m⟩) : GL P I nb ops K d (⟨some t, .build e ps, ty, pos, af, none⟩ :: r) i acc ⟨ts, m⟩ := .stepP hI (.build h hp) (k)
theorem GL.lenF (hI : InlM I) {x : Operand} {xt e : TypeId} {es : List (List LV)} {n : Nat} (ht : P.underlying xt = some (.slice e)) (hx : evalO ts x = .sl es) (hn : es.length = n) (k : GL P I nb ops K d r (i + 1) ((i, [], []) :: acc) ⟨updS ts t (.int .i64 n), m⟩) : GL P I nb ops K d (⟨some t, .call { callee := .builtin .len, args := #[x], argTypes := #[xt] }, ty, pos, af, none⟩ :: r) i acc ⟨ts, m⟩ := .stepP hI (.len (by rw [hx]; exact congrArg some hn) (by rw [hx]; exact .sl) (.inl ⟨⟨e, ht⟩, by simp [hx]⟩)) (k)
theorem GL.lenO (hI : InlM I) {x : Operand} {xt e : TypeId} {b g off n : Nat} {cap : Option Nat} {y : Box} (ht : P.underlying xt = some (.slice e)) (hx : evalO ts x = .own b g off n cap) (hm : m b = some y) (hg : y.gen = g) (k : GL P I nb ops K d r (i + 1) ((i, [], [b]) :: acc) ⟨updS ts t (.int .i64 n), m⟩) : GL P I nb ops K d (⟨some t, .call { callee := .builtin .len, args := #[x], argTypes := #[xt] }, ty, pos, af, none⟩ :: r) i acc ⟨ts, m⟩ := .stepP hI (.len (by rw [hx]; rfl) (by rw [hx]; exact .own hm hg) (.inl ⟨⟨e, ht⟩, by simp [hx]⟩)) (k)
theorem GL.lenN (hI : InlM I) {x : Operand} {xt e : TypeId} (ht : P.underlying xt = some (.slice e)) (hx : evalO ts x = .nils) (k : GL P I nb ops K d r (i + 1) ((i, [], []) :: acc) ⟨updS ts t (.int .i64 (0 : Nat)), m⟩) : GL P I nb ops K d (⟨some t, .call { callee := .builtin .len, args := #[x], argTypes := #[xt] }, ty, pos, af, none⟩ :: r) i acc ⟨ts, m⟩ := .stepP hI (.len (n := 0) (by rw [hx]; rfl) (by rw [hx]; exact .nils) (.inl ⟨⟨e, ht⟩, by simp [hx]⟩)) (k)
theorem GL.max (hI : InlM I) {x : Operand} {xs : List Operand} {tys : Array TypeId} {v : LV} (h : fold2L max2L (evalO ts x) (xs.map (evalO ts)) = some v) (k : GL P I nb ops K d r (i + 1) ((i, [], []) :: acc) ⟨updS ts t v, m⟩) : GL P I nb ops K d (⟨some t, .call { callee := .builtin .max, args := (x :: xs).toArray, argTypes := tys }, ty, pos, af, none⟩ :: r) i acc ⟨ts, m⟩ := .stepP hI (.max h) (k)
theorem GL.min (hI : InlM I) {x : Operand} {xs : List Operand} {tys : Array TypeId} {v : LV} (h : fold2L min2L (evalO ts x) (xs.map (evalO ts)) = some v) (k : GL P I nb ops K d r (i + 1) ((i, [], []) :: acc) ⟨updS ts t v, m⟩) : GL P I nb ops K d (⟨some t, .call { callee := .builtin .min, args := (x :: xs).toArray, argTypes := tys }, ty, pos, af, none⟩ :: r) i acc ⟨ts, m⟩ := .stepP hI (.min h) (k)
theorem GL.makeFunc (hI : InlM I) {f : FuncId} {cap : Array Operand} {caps : List LV} (h : cap.toList.map (evalO ts) = caps) (k : GL P I nb ops K d r (i + 1) ((i, [], []) :: acc) ⟨updS ts t (.fn f caps), m⟩) : GL P I nb ops K d (⟨some t, .makeFunc (.func f) #[] cap, ty, pos, af, none⟩ :: r) i acc ⟨ts, m⟩ := .stepP hI .makeFunc (h ▸ k)
theorem GL.alloc (hI : InlM I) {e : TypeId} {cs : List LV} {n : Nat} (h : zeroL P e = some cs) (hn : cs.length = n) (k : ∀ g, GL P I nb ops K d r (i + 1) ((i, [nb + 64 * t], [nb + 64 * t]) :: acc) ⟨updS ts t (.ref (nb + 64 * t) g 0 0), updM m (nb + 64 * t) ⟨g, false, .var, n, [cs]⟩⟩) :
    GL P I nb ops K d (⟨some t, .alloc e, ty, pos, af, none⟩ :: r) i acc ⟨ts, m⟩ := by
  subst hn
  exact .step hI (.alloc h) (by simp) (k _)
theorem GL.box (hI : InlM I) {e : TypeId} {x : Operand} {v : LV} {cs : List LV} {n : Nat} (hx : evalO ts x = v) (h : cellsL v = cs) (hn : cs.length = n) (h1 : cs.all oneC = true)
    (k : ∀ g, GL P I nb ops K d r (i + 1) ((i, [nb + 64 * t], [nb + 64 * t]) :: acc) ⟨updS ts t (.ref (nb + 64 * t) g 0 0), updM m (nb + 64 * t) ⟨g, false, .var, n, [cs]⟩⟩) : GL P I nb ops K d (⟨some t, .box e x, ty, pos, af, none⟩ :: r) i acc ⟨ts, m⟩ := by
  subst hn hx
  exact .step hI (.box h h1) (by simp) (k _)
theorem GL.store (hI : InlM I) {e : TypeId} {a y : Operand} {b g j c n : Nat} {x : Box} {cs vs cs' : List LV} {es' : List (List LV)} (hs : szT P e = some n) (ha : evalO ts a = .ref b g j c) (hm : m b = some x) (hg : x.gen = g) (hf : x.frz = false) (hk : x.kind = .var)
    (he : x.es[j]? = some cs) (hy : cellsL (evalO ts y) = vs) (hl : vs.length = n) (h1 : vs.all oneC = true) (hc : c + n ≤ cs.length) (hn : cs.take c ++ vs ++ cs.drop (c + n) = cs') (hn' : x.es.set j cs' = es')
    (k : GL P I nb ops K d r (i + 1) ((i, [b], [b]) :: acc) ⟨ts, updM m b ⟨g, false, .var, x.sz, es'⟩⟩) : GL P I nb ops K d (⟨none, .store e a y, ty, pos, af, none⟩ :: r) i acc ⟨ts, m⟩ := by
  refine .stepN hI (.store ha hm hg hf hk he hs hy hl h1 hc) (by simp [hf]) ?_
  rw [hn, hn']
  simp only [effM, Wn, List.map]
  rw [hg, hf, hk]
  exact k
/-- A slice's literal whose parts hold nothing of this call's own. -/
theorem GL.buildSlice0 (hI : InlM I) {e et : TypeId} {n sz : Nat} {ps : Array (Nat × Operand)} {z : List LV} {ps' : List (Nat × List LV)} {es : List (List LV)} (ht : sliceE P e = some et) (hz : zeroL P et = some z) (hzl : z.length = sz) (hs : szT P et = some sz) (hn : 0 < sz) (hb : n * sz ≤ 16777216) (hn0 : 0 < n) (hp : FrzP m sz n (evalO ts) ps.toList ps' [])
    (he : fillE (List.replicate n (z.map pureC)) ps' = es) (k : ∀ g, GL P I nb ops K d r (i + 1) ((i, [nb + 64 * t], [nb + 64 * t]) :: acc) ⟨updS ts t (.own (nb + 64 * t) g 0 n none), updM m (nb + 64 * t) ⟨g, false, .slc, sz, es⟩⟩) : GL P I nb ops K d (⟨some t, .buildSlice e n ps, ty, pos, af, none⟩ :: r) i acc ⟨ts, m⟩ := by
  subst he hzl
  exact .step hI (eff := [_]) (.buildSlice ht hz hs hn hb hn0 hp) (by simp) (k _)
theorem GL.appendN (hI : InlM I) {x y : Operand} {e u et : TypeId} {es : List (List LV)} {z : List LV} {R : List Nat} {sz n : Nat} (ht : sliceE P e = some et) (hu : u = e) (hz : zeroL P et = some z) (hzl : z.length = sz) (hs : szT P et = some sz) (h0 : 0 < sz) (hb : P.bytesOf et ≤ 4096) (hx : evalO ts x = .nils)
    (hy : SrcR m (evalO ts y) sz es R) (hn : es.length = n) (hpos : 0 < n) (hone : ∀ e ∈ es, e.all oneC = true) (h1 : n ≤ 4294967296)
    (k : ∀ g, GL P I nb ops K d r (i + 1) ((i, [nb + 64 * t], (nb + 64 * t) :: R) :: acc) ⟨updS ts t (.own (nb + 64 * t) g 0 n none), updM m (nb + 64 * t) ⟨g, false, .slc, sz, es⟩⟩) :
    GL P I nb ops K d (⟨some t, .call { callee := .builtin .append, args := #[x, y], argTypes := #[e, u] }, ty, pos, af, none⟩ :: r) i acc ⟨ts, m⟩ := by
  subst hzl hn
  exact .step hI (eff := [_]) (.appendN hx ht hu hz hs h0 hy hpos hone h1 hb) (by simp) (k _)
theorem GL.append (hI : InlM I) {x y : Operand} {e u et : TypeId} {b g off len n : Nat} {bx : Box} {es es' : List (List LV)} {z : List LV} {R : List Nat} {sz : Nat} (ht : sliceE P e = some et) (hu : u = e) (hz : zeroL P et = some z) (hzl : z.length = sz) (hs : szT P et = some sz) (h0 : 0 < sz) (hb : P.bytesOf et ≤ 4096)
    (hx : evalO ts x = .own b g off len none) (hm : m b = some bx) (hg : bx.gen = g) (hf : bx.frz = false) (hk : bx.kind = .slc) (hsz : bx.sz = sz) (hend : off + len = bx.es.length) (hy : SrcR m (evalO ts y) sz es R) (hyb : b ∉ R) (hpos : 0 < es.length) (hone : ∀ e ∈ es, e.all oneC = true) (hn : len + es.length = n) (h1 : n ≤ 4294967296)
    (he : bx.es.drop off ++ es = es') (k : GL P I nb ops K d r (i + 1) ((i, [b], b :: R) :: acc) ⟨updS ts t (.own b (g + 1) 0 n none), updM m b ⟨g + 1, false, .slc, sz, es'⟩⟩) :
    GL P I nb ops K d (⟨some t, .call { callee := .builtin .append, args := #[x, y], argTypes := #[e, u] }, ty, pos, af, none⟩ :: r) i acc ⟨ts, m⟩ := by
  subst hzl hn he
  refine .step hI (eff := [_]) (.append hx hm hg hf hk hend ht hu hz hs hsz h0 hy hyb hpos hone h1 hb) (by simp [hf]) ?_
  simp only [effM, Wn, List.map]
  rw [hf, hk, hsz]
  exact k
/-- A call that makes one result, of which nothing is this call's own; nothing was to be marked. -/
theorem GL.call0 (hI : InlM I) {g : Operand} {as : Array Operand} {tys : Array TypeId} {f : FuncId} {caps args : List LV} {T : List Nat} {res : LV} (hg : evalO ts g = .fn f caps) (hf : Frz m (.agg (as.toList.map (evalO ts) ++ caps)) (.agg args) T) (hc : CallsV P f args res)
    (hT : unmark m (markE m T) = []) (ht : topI res = true) (hr : ∀ m, impT m (nb + 64 * t) res = (res, [])) (k : GL P I nb ops K d r (i + 1) ((i, [], T) :: acc) ⟨updS ts t res, m⟩) :
    GL P I nb ops K d (⟨some t, .call { callee := .value g, args := as, argTypes := tys }, ty, pos, af, none⟩ :: r) i acc ⟨ts, m⟩ := by
  have hm : effM m (markE m T) = m := by rw [effM_unmarkE T fun n x hx => .inl hx, hT]; rfl
  cases d with
  | false =>
    simp only [GL, wantedL]
    refine .call (o := ⟨some t, .call { callee := .value g, args := as, argTypes := tys }, ty, pos, af, none⟩) rfl hg hf hc fun r' hr' => ?_
    subst hr'
    refine ⟨ht, ?_⟩
    simp only [nameO, Option.getD_some, hm, hr, effM]
    exact GL.accI hI k
  | true =>
    simp only [GL, wantedL]
    refine ⟨_, .call (o := ⟨some t, .call { callee := .value g, args := as, argTypes := tys }, ty, pos, af, none⟩) rfl hg hf hc ht, ?_⟩
    simp only [nameO, Option.getD_some, hm, hr, hT, effM, List.append_nil, Wn, List.map_nil]
    exact k
/-- A call behind which more is known to be read only. -/
theorem GL.callM (hI : InlM I) {g : Operand} {as : Array Operand} {tys : Array TypeId} {f : FuncId} {caps args : List LV} {T : List Nat} {res v : LV} {m' : Mem} {e : List (Nat × Box)} (hg : evalO ts g = .fn f caps) (hf : Frz m (.agg (as.toList.map (evalO ts) ++ caps)) (.agg args) T) (hc : CallsV P f args res)
    (hT : effM m (markE m T) = m') (ht : topI res = true) (hr : impT m' (nb + 64 * t) res = (v, e)) (k : GL P I nb ops K false r (i + 1) acc ⟨updS ts t v, effM m' e⟩) :
    GL P I nb ops K false (⟨some t, .call { callee := .value g, args := as, argTypes := tys }, ty, pos, af, none⟩ :: r) i acc ⟨ts, m⟩ := by
  simp only [GL, wantedL]
  refine .call (o := ⟨some t, .call { callee := .value g, args := as, argTypes := tys }, ty, pos, af, none⟩) rfl hg hf hc fun r' hr' => ?_
  subst hr'
  refine ⟨ht, ?_⟩
  simp only [nameO, Option.getD_some, hT, hr]
  exact k
end
/-! ### What is kept at a loop's head -/
def Has (m : Mem) : List (Nat × Box) → Prop
  | [] => True
  | (n, x) :: r => m n = some x ∧ Has m r
theorem Has.nil {m : Mem} : Has m [] := trivial
theorem Has.cons {m : Mem} {n : Nat} {x : Box} {r : List (Nat × Box)} (h : m n = some x) (hr : Has m r) : Has m ((n, x) :: r) := ⟨h, hr⟩
theorem effM_eq : ∀ {bs : List (Nat × Box)} {m : Mem}, Has m bs → effM m bs = m
  | [], _, _ => rfl
  | (n, x) :: r, m, h => by
    simp only [effM]
    rw [upd_eq h.1]
    exact effM_eq h.2
end Go.Proofs.Ytpepcfombibpeaa.Mv
