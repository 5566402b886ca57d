/- Code, and functions. -/
import Derived.Test.YtpepcfombibpeaaMv16
set_option linter.unusedVariables false
set_option linter.unusedSimpArgs false
namespace Go.Proofs.Ytpepcfombibpeaa.Mv

/-- A state that knows less. -/
def Weak (s s' : St) : Prop := ∀ X a w F ρ, Inv X s a w F ρ → ∃ F' ρ', Inv X s' a w F' ρ'
theorem Weak.refl (s : St) : Weak s s := fun _ _ _ F ρ h => ⟨F, ρ, h⟩
theorem Weak.trans {s s' s'' : St} (h : Weak s s') (h' : Weak s' s'') : Weak s s'' := fun X a w F ρ hi => by
  obtain ⟨F1, ρ1, h1⟩ := h X a w F ρ hi
  exact h' X a w F1 ρ1 h1
theorem Weak.mark (ts : Slots) (m : Mem) (T : List Nat) : Weak ⟨ts, m⟩ ⟨ts, effM m (markE m T)⟩ := fun _ _ _ _ ρ h => by
  obtain ⟨F', -, -, h'⟩ := h.mark T
  exact ⟨F', ρ, h'⟩
/-- Slots: known, or not looked at. -/
def LessS (f g : Slots) : Prop := ∀ j, g j = f j ∨ g j = .undef
theorem LessS.nil (f : Slots) : LessS f (fun _ => .undef) := fun _ => .inr rfl
theorem LessS.refl (f : Slots) : LessS f f := fun _ => .inl rfl
theorem LessS.upd {f g : Slots} (h : LessS f g) {i : Nat} {v : LV} (hv : f i = v) : LessS f (updS g i v) := fun j => by
  by_cases hj : i = j
  · subst hj
    rw [updS_same, hv]
    exact .inl rfl
  · rw [updS_ne _ _ hj]
    exact h j
theorem LessS.weak {f g : Slots} (h : LessS f g) (m : Mem) : Weak ⟨f, m⟩ ⟨g, m⟩ := fun X a w F ρ hi => by
  refine ⟨F, ρ, { hi with slots := fun j => ?_ }⟩
  rcases h j with h1 | h1
  · show RelL w F ρ m _ (g j)
    rw [h1]
    exact hi.slots j
  · show RelL w F ρ m _ (g j)
    rw [h1]
    exact .frz (.undef _)

def thenX (next : St → Prop) (Q : Ex → St → Prop) : Ex → St → Prop
  | .normal, s => next s
  | e, s => Q e s
def blockX (id : Nat) (Q : Ex → St → Prop) : Ex → St → Prop
  | .exit id', s =>
    match Nat.beq id' id with
    | true => Q .normal s
    | false => Q (.exit id') s
  | e, s => Q e s

def Wp (P : Program) (I : InlP) (nb : Nat) : Code → (Ex → St → Prop) → St → Prop
  | .skip, Q, st => Q .normal st
  | .region _ ops d, Q, st =>
    match d with
    | false => WpOps P I nb ops (Q .normal) (List.range ops.size) st
    | true => ∃ s, Weak st s ∧ DOps P nb ops (Q .normal) (List.range ops.size) [] s
  | .seq x y, Q, st => Wp P I nb x (thenX (fun s => ∃ s', Weak s s' ∧ Wp P I nb y Q s') Q) st
  | .cond c x y, Q, st => ∃ b, evalO st.ts c = .bool b ∧ (b = true → Wp P I nb x Q st) ∧ (b = false → Wp P I nb y Q st)
  | .block id c, Q, st => Wp P I nb c (blockX id Q) st
  | .loop c, Q, st => ∀ X : St → Prop, (∀ s s', Weak s s' → X s' → X s) → (∀ s, Wp P I nb c (thenX X Q) s → X s) → X st
  | .exit id, Q, st => Q (.exit id) st
  | .ret, Q, st => Q .ret st
  | _, _, _ => False

def dstsOK (n : Nat) : Code → Bool
  | .region _ ops _ => ops.toList.all (dstOK n)
  | .seq x y => dstsOK n x && dstsOK n y
  | .cond _ x y => dstsOK n x && dstsOK n y
  | .block _ c => dstsOK n c
  | .loop c => dstsOK n c
  | _ => true

theorem Post.mono {X : Ctx} {n : Nat} {Q Q' : Ex → St → Prop} (h : ∀ e s, Q e s → Q' e s) {e : Exit} {a : Act} {w : World} (hp : Post X n Q e a w) : Post X n Q' e a w := by
  obtain ⟨ex, st, F, ρ, h1, h2, h3⟩ := hp
  exact ⟨ex, st, F, ρ, h1, h _ _ h2, h3⟩

theorem dsts_ops {n id : Nat} {ops : Array Oper} {d : Bool} (h : dstsOK n (.region id ops d) = true) (i : Nat) (o : Oper) (ho : ops[i]? = some o) : dstOK n o = true := by
  simp only [dstsOK, List.all_eq_true] at h
  exact h o (by simpa using Array.mem_of_getElem? ho)

theorem Wp.sound {P : Program} {X : Ctx} {I : InlP} (hI : InlS P I) (hmix : P.follows .mixedOrders = true) {nb n : Nat} : ∀ (c : Code), dstsOK n c = true → ∀ {Q : Ex → St → Prop} {st : St} {a : Act} {w : World} {F : Nat → Prop} {ρ : Locs},
    Wp P I nb c Q st → Inv X st a w F ρ → a.tmps.size = n → c.wp P (Post X n Q) a w := by
  intro c
  induction c with
  | skip => intro _ Q st a w F ρ hw h hn; exact wp_skip ⟨.normal, st, F, ρ, rfl, hw, h, hn⟩
  | region id ops d =>
    intro hd Q st a w F ρ hw h hn
    cases d with
    | false => exact wp_region (WpOps.sound hI (dsts_ops hd) _ hw h hn)
    | true =>
      obtain ⟨s, hs, hw⟩ := hw
      obtain ⟨F', ρ', h'⟩ := hs X a w F ρ h
      exact DOps.sound hI hmix (dsts_ops hd) hw h' hn
  | seq x y ihx ihy =>
    intro hd Q st a w F ρ hw h hn
    simp only [dstsOK, Bool.and_eq_true] at hd
    refine wp_seq (wp_mono (ihx hd.1 hw h hn) fun e a w hp => ?_)
    obtain ⟨ex, s, F1, ρ1, rfl, hq, hi, hn1⟩ := hp
    cases ex with
    | normal =>
      obtain ⟨s', hs, hw'⟩ := hq
      obtain ⟨F', ρ', h'⟩ := hs X a w F1 ρ1 hi
      exact ihy hd.2 hw' h' hn1
    | exit id => exact ⟨.exit id, s, F1, ρ1, rfl, hq, hi, hn1⟩
    | ret => exact ⟨.ret, s, F1, ρ1, rfl, hq, hi, hn1⟩
  | cond c x y ihx ihy =>
    intro hd Q st a w F ρ hw h hn
    simp only [dstsOK, Bool.and_eq_true] at hd
    obtain ⟨b, hb, h1, h2⟩ := hw
    have hv := h.eval c
    rw [hb] at hv
    refine wp_cond_split hv.bool (fun hb => ihx hd.1 (h1 hb) h hn) fun hb => ihy hd.2 (h2 hb) h hn
  | block id c ih =>
    intro hd Q st a w F ρ hw h hn
    refine wp_block (wp_mono (ih hd hw h hn) fun e a w hp => ?_)
    obtain ⟨ex, s, F1, ρ1, rfl, hq, hi, hn1⟩ := hp
    cases ex with
    | normal => exact ⟨.normal, s, F1, ρ1, rfl, hq, hi, hn1⟩
    | exit id' =>
      simp only [blockX] at hq
      show if id' = id then _ else _
      by_cases hid : id' = id
      · rw [if_pos hid]
        have : Nat.beq id' id = true := by rw [hid]; exact Nat.beq_refl id
        rw [this] at hq
        exact ⟨.normal, s, F1, ρ1, rfl, hq, hi, hn1⟩
      · rw [if_neg hid]
        have : Nat.beq id' id = false := by
          cases hb : Nat.beq id' id
          · rfl
          · exact absurd (Nat.eq_of_beq_eq_true hb) hid
        rw [this] at hq
        exact ⟨.exit id', s, F1, ρ1, rfl, hq, hi, hn1⟩
    | ret => exact ⟨.ret, s, F1, ρ1, rfl, hq, hi, hn1⟩
  | loop c ih =>
    intro hd Q st a w F ρ hw h hn
    intro b k cs
    have key := hw (fun s => ∀ a w F ρ, Inv X s a w F ρ → a.tmps.size = n → ∃ e a' w', Post X n Q e a' w' ∧ Arrives P (lone (b.at a (.code c :: .inLoop c :: k)) cs w) b k cs e a' w')
      (fun s s' hs hX a w F ρ hi hn => by
        obtain ⟨F', ρ', h'⟩ := hs X a w F ρ hi
        exact hX a w F' ρ' h' hn)
      (fun s hs a w F ρ hi hn => by
        obtain ⟨e, a1, w1, hq, harr⟩ := ih hd hs hi hn b (.inLoop c :: k) cs
        obtain ⟨ex, s1, F1, ρ1, rfl, hq, hi1, hn1⟩ := hq
        cases ex with
        | normal =>
          obtain ⟨e2, a2, w2, hq2, harr2⟩ := hq a1 w1 F1 ρ1 hi1 hn1
          exact ⟨e2, a2, w2, hq2, .of_steps (Steps.trans harr (.one step_inLoop)) harr2⟩
        | exit id => exact ⟨.exit id, a1, w1, ⟨.exit id, s1, F1, ρ1, rfl, hq, hi1, hn1⟩, .pass (x := .inLoop c) rfl (fun _ _ => .inl (by simp)) harr⟩
        | ret => exact ⟨.ret, a1, w1, ⟨.ret, s1, F1, ρ1, rfl, hq, hi1, hn1⟩, .pass (x := .inLoop c) rfl (fun _ _ => .inl (by simp)) harr⟩)
    obtain ⟨e, a', w', hq, harr⟩ := key a w F ρ h hn
    exact ⟨e, a', w', hq, .of_steps (.one step_loop) harr⟩
  | exit id => intro _ Q st a w F ρ hw h hn; exact wp_exit ⟨.exit id, st, F, ρ, rfl, hw, h, hn⟩
  | ret => intro _ Q st a w F ρ hw h hn; exact wp_ret ⟨.ret, st, F, ρ, rfl, hw, h, hn⟩
  | _ => intro _ Q st a w F ρ hw; exact hw.elim

/-! ### Rules -/
section
variable {P : Program} {I : InlP} {nb : Nat} {Q Q' : Ex → St → Prop}
theorem thenX.mono {K K' : St → Prop} (hk : ∀ s, K s → K' s) (h : ∀ e s, Q e s → Q' e s) : ∀ e s, thenX K Q e s → thenX K' Q' e s := by
  intro e s
  cases e
  · exact hk s
  · exact h _ s
  · exact h _ s
theorem WpOp.mono {o : Oper} {st : St} {K K' : LV → Mem → Prop} (hI : ∀ nb f args m R R', (∀ v m, R v m → R' v m) → I nb f args m R → I nb f args m R') (h : WpOp P I nb o st K) (hk : ∀ v m, K v m → K' v m) : WpOp P I nb o st K' := by
  cases h with
  | op h k => exact .op h (hk _ _ k)
  | call ho hg hf hc k => exact .call ho hg hf hc fun res hr => ⟨(k res hr).1, hk _ _ (k res hr).2⟩
  | callF ho hg hf hc k => exact .callF ho hg hf hc fun res hr => ⟨(k res hr).1, (k res hr).2.1, hk _ _ (k res hr).2.2⟩
  | inl ho hg k => exact .inl ho hg (hI _ _ _ _ _ _ hk k)

theorem Wp.seq {x y : Code} {st : St} (h : Wp P I nb x (thenX (fun s => Wp P I nb y Q s) Q) st) (hm : ∀ st Q Q', (∀ e s, Q e s → Q' e s) → Wp P I nb x Q st → Wp P I nb x Q' st) : Wp P I nb (.seq x y) Q st :=
  hm _ _ _ (thenX.mono (fun s hs => ⟨s, Weak.refl s, hs⟩) fun _ _ h => h) h
end

/-! ### Functions -/
theorem Frz.agg_some {m : Mem} {l l' : LV} {T : List Nat} (h : Frz m l l' T) : ∀ n ∈ T, (m n).isSome = true := h.some
theorem Exp.some {m : Mem} {l l' : LV} {T M : List Nat} (h : Exp m l l' T M) : ∀ n ∈ T, (m n).isSome = true := by
  induction h with
  | frz h => exact h.some
  | skip => simp
  | nils => simp
  | slo => simp
  | aggn => simp
  | aggc h hs ih1 ih2 =>
    intro n hn
    rcases List.mem_append.1 hn with hn | hn
    · exact ih1 n hn
    · exact ih2 n hn
  | tup h ih => exact ih
  | ptro hm hg hf hk he h ih => exact ih

/-- A result's value. -/
inductive ResV (P : Program) (st : St) : ResultVar → LV → Prop
  | tmp {t : Nat} {v : LV} (h : st.ts t = v) : ResV P st (.tmp t) v
  | cell {p : Nat} {t : TypeId} {b g i c : Nat} {x : Box} {cs : List LV} {v : LV} (ha : st.ts p = .ref b g i c) (hm : st.m b = some x) (hg : x.gen = g) (hk : x.kind ≠ .mp)
      (he : x.es[i]? = some cs) (ht : isAggT P t = some false) (hv : cs[c]? = some v) : ResV P st (.cell p t) v
  | cellA {p : Nat} {t : TypeId} {b g i c n : Nat} {x : Box} {cs : List LV} (ha : st.ts p = .ref b g i c) (hm : st.m b = some x) (hg : x.gen = g) (hk : x.kind ≠ .mp)
      (he : x.es[i]? = some cs) (ht : isAggT P t = some true) (hs : szT P t = some n) (hc : c + n ≤ cs.length) : ResV P st (.cell p t) (.agg ((cs.drop c).take n))
inductive ResVs (P : Program) (st : St) : List ResultVar → List LV → Prop
  | nil : ResVs P st [] []
  | cons {r : ResultVar} {rs : List ResultVar} {v : LV} {vs : List LV} (h : ResV P st r v) (hs : ResVs P st rs vs) : ResVs P st (r :: rs) (v :: vs)
def oneOf : List LV → LV
  | [v] => v
  | vs => .tup vs

/-- What a function hands back. -/
def Ret (P : Program) (rvs : List ResultVar) (R : LV → Prop) (st : St) : Prop :=
  ∃ vs v T M, ResVs P st rvs vs ∧ Exp st.m (oneOf vs) v T M ∧ M.Nodup ∧ (∀ n ∈ M, n ∉ T) ∧ R v
def RetX (P : Program) (rvs : List ResultVar) (R : LV → Prop) : Ex → St → Prop
  | .exit _, _ => False
  | _, st => Ret P rvs R st

def resM (tmps : Array Value) : ResultVar → Sem Value
  | .tmp t => pure (tmps.getD t undef)
  | .cell a t => do loadVar t (← asAddr (tmps.getD a undef))

section
variable {P : Program} {X : Ctx} {st : St} {a : Act} {w : World} {F : Nat → Prop} {ρ : Locs}
theorem load_res {t : TypeId} {p : Nat} {v : Value} (h : (execOp a.eval { dst := none, op := .load t (.tmp p), type := 0, pos := "", after := #[], guard := none }).run P w = .ok (.value v) w) : (resM a.tmps (.cell p t)).run P w = .ok v w := by
  simp only [execOp, Sem.run_bind, Instr.loadAt] at h
  simp only [resM, Sem.run_bind]
  change (((Instr.sureAddr (a.tmps.getD p undef)).run P w).andThen fun p w => (loadVar t p).run P w).andThen _ = _ at h
  revert h
  generalize a.tmps.getD p undef = q
  intro h
  cases q with
  | pointer q =>
    cases q with
    | none => simp [Instr.sureAddr, stuck, Result.andThen] at h
    | some q =>
      simp only [Instr.sureAddr, asAddr, Sem.run_pure, Result.andThen_ok] at h ⊢
      cases hl : (loadVar t q).run P w with
      | ok u w' =>
        rw [hl] at h
        simp only [Result.andThen_ok, Sem.run_pure] at h
        injection h with h1 h2
        injection h1 with h1
        rw [h1, h2]
      | halt x w' => rw [hl] at h; simp [Result.andThen] at h
  | _ => simp [Instr.sureAddr, stuck, Result.andThen] at h

theorem resV_sound (h : Inv X st a w F ρ) {r : ResultVar} {v : LV} (hr : ResV P st r v) : ∃ val, (resM a.tmps r).run P w = .ok val w ∧ RelL w F ρ st.m val v := by
  cases hr with
  | tmp ht => exact ⟨_, rfl, ht ▸ h.slots _⟩
  | @cell p t b g i c x cs v ha hm hg hk he ht hv =>
    have hx := h.slots p
    rw [ha] at hx
    obtain ⟨-, l, hl, hx⟩ := hx.toRef hm hg
    obtain ⟨u, hu, hr⟩ := h.boxCell hm hk hl he hv
    refine ⟨u, ?_, hr.relL⟩
    refine load_res ?_
    simp only [execOp, Sem.run_bind]
    change ((Instr.loadAt t (a.tmps.getD p undef)).run P w).andThen _ = _
    rw [hx, run_load1 (P := P) ht hu, Result.andThen_ok]
    rfl
  | @cellA p t b g i c n x cs ha hm hg hk he ht hs hc =>
    have hx := h.slots p
    rw [ha] at hx
    obtain ⟨-, l, hl, hx⟩ := hx.toRef hm hg
    obtain ⟨vs, hn, hcells⟩ := cells_list (P := fun j v => ∃ q, cs[c + j]? = some q ∧ RelL w F ρ st.m v q) (w := w) (blk := l.blk) (o := l.base + (i * x.sz + c)) (n := n) fun j hj => by
      have hq : cs[c + j]? = some (cs[c + j]'(by omega)) := List.getElem?_eq_getElem _
      obtain ⟨u, hu, hr⟩ := h.boxCell hm hk hl he hq
      exact ⟨u, by rw [show l.base + (i * x.sz + c) + j = l.base + (i * x.sz + (c + j)) by omega]; exact hu, _, hq, hr.relL⟩
    refine ⟨.agg vs.toArray, load_res ?_, aggOfCells hn hc fun j v hv => (hcells j v hv).2⟩
    have := run_loadA (P := P) (w := w) (p := ⟨l.blk, l.base + (i * x.sz + c), none⟩) ht hs hn (fun j v hv => by rw [add_plain]; exact (hcells j v hv).1)
    simp only [execOp, Sem.run_bind]
    change ((Instr.loadAt t (a.tmps.getD p undef)).run P w).andThen _ = _
    rw [hx, this, Result.andThen_ok]
    rfl

theorem resVs_sound (h : Inv X st a w F ρ) {rs : List ResultVar} {vs : List LV} (hr : ResVs P st rs vs) : ∃ vals, (rs.mapM (resM a.tmps)).run P w = .ok vals w ∧ RelL w F ρ st.m (.agg vals.toArray) (.agg vs) := by
  induction hr with
  | nil => exact ⟨[], rfl, .agg rfl fun i v l hv => by simp at hv⟩
  | cons h1 hs ih =>
    obtain ⟨val, g1, g2⟩ := resV_sound h h1
    obtain ⟨vals, g3, g4⟩ := ih
    refine ⟨val :: vals, ?_, RelL.consAgg g2 g4⟩
    simp only [List.mapM_cons, Sem.run_bind, g1, g3, Result.andThen_ok]
    rfl

theorem results_sound (h : Inv X st a w F ρ) {fn : Func} {vs : List LV} (hr : ResVs P st fn.results.toList vs) : ∃ val, (results fn a.tmps).run P w = .ok val w ∧ RelL w F ρ st.m val (oneOf vs) := by
  obtain ⟨vals, g1, g2⟩ := resVs_sound h hr
  have hm : (fn.results.mapM (resM a.tmps)).run P w = .ok vals.toArray w := by
    have : fn.results = fn.results.toList.toArray := by simp
    rw [this, List.mapM_toArray]
    simp only [map_eq_pure_bind, Sem.run_bind, g1, Result.andThen_ok]
    rfl
  have hres : (results fn a.tmps).run P w = .ok (if h : vals.toArray.size = 1 then vals.toArray[0] else .tuple vals.toArray) w := by
    have hfun : ∀ g : ResultVar → Sem Value, (∀ r, g r = resM a.tmps r) → Sem.run P (do let us ← fn.results.mapM g; pure (if h : us.size = 1 then us[0] else Value.tuple us)) w =
        .ok (if h : vals.toArray.size = 1 then vals.toArray[0] else .tuple vals.toArray) w := by
      intro g hg
      rw [funext hg, Sem.run_bind, hm]
      rfl
    exact hfun _ fun r => by cases r <;> rfl
  obtain ⟨cs, e1, e2, e3⟩ := g2.cells
  injection e1 with e1
  subst e1
  refine ⟨_, hres, ?_⟩
  by_cases h1 : vals.toArray.size = 1
  · rw [dif_pos h1]
    rw [h1] at e2
    obtain ⟨v, rfl⟩ := List.length_eq_one_iff.1 e2.symm
    exact e3 0 _ v (by rw [Array.getElem?_eq_getElem (by omega)]) rfl
  · rw [dif_neg h1]
    have : oneOf vs = .tup vs := by
      unfold oneOf
      split
      · simp at e2; simp at h1; omega
      · rfl
    rw [this]
    exact .tup e2 e3
end

/-- The slots at a call's beginning. -/
def argS (args : List LV) : Slots := fun j =>
  match args[j]? with
  | some v => v
  | none => .skip

theorem CallsR.intro {P : Program} {I : InlP} (hI : InlS P I) (hmix : P.follows .mixedOrders = true) {f : FuncId} {fn : Func} {c : Code} (hf : P.funcs[f]? = some fn) (hb : fn.body = some c) (hname : (fn.name == "runtime.NumGoroutine") = false)
    {args : List LV} {R : LV → Prop} (hlen : args.length ≤ fn.ntmps) (hd : dstsOK fn.ntmps c = true) {nb : Nat} (hw : Wp P I nb c (RetX P fn.results.toList R) ⟨argS args, fun _ => none⟩) : CallsR P f args R := by
  refine ⟨⟨fn, hf, hname, by rw [hb]; rfl⟩, fun w F vs hrel hlt => ?_⟩
  obtain ⟨cs, e1, e2, e3⟩ := hrel.cells
  injection e1 with e1
  subst e1
  refine calls_of_wp hf hb ?_
  have hinv : Inv ⟨w, F, [], fun _ _ => False⟩ ⟨argS args, fun _ => none⟩ { tmps := vs ++ Array.replicate (fn.ntmps - vs.size) undef, defers := [] } w F (fun _ => none) := by
    refine ⟨rfl, fun j => ?_, fun n x hx => (by cases hx), fun n x l hx => (by cases hx), fun n n' x x' l l' hx => (by cases hx), fun b h => h, fun b h => .inl h, hlt, Ext.refl _ _, fun v l h => h.elim⟩
    show RelL w F _ _ _ (argS args j)
    unfold argS
    rw [Array.getD_eq_getD_getElem?]
    by_cases hj : j < vs.size
    · rw [Array.getElem?_append_left hj, Array.getElem?_eq_getElem hj]
      have hj' : j < args.length := by omega
      rw [List.getElem?_eq_getElem hj']
      exact .frz (e3 j _ _ (Array.getElem?_eq_getElem hj) (List.getElem?_eq_getElem hj'))
    · rw [List.getElem?_eq_none (by omega)]
      have : ((vs ++ Array.replicate (fn.ntmps - vs.size) undef)[j]?).getD Go.undef = Go.undef := by
        rw [Array.getElem?_append_right (by omega)]
        by_cases h2 : j - vs.size < fn.ntmps - vs.size
        · rw [Array.getElem?_eq_getElem (by simpa using h2)]
          simp
        · rw [Array.getElem?_eq_none (by simp; omega)]
          rfl
      rw [this]
      exact .frz .skip
  refine wp_mono (Wp.sound hI hmix c hd hw hinv (by simp; omega)) fun e a w' hp => ?_
  obtain ⟨ex, st, F', ρ, rfl, hq, hi, -⟩ := hp
  have key : Ret P fn.results.toList R st → a.defers = [] ∧ ∃ v, (results fn a.tmps).run P w' = .ok v w' ∧ ∃ v_1 res F' O, Ending.returned v = .returned v_1 ∧ R res ∧ Ext [] w w' ∧ (∀ b, F b → F' b) ∧ (∀ b, F' b → F b ∨ w.heap.size ≤ b) ∧ (∀ b, F' b → b < w'.heap.size) ∧
      RelI w' F' v_1 res O ∧ O.Nodup ∧ ∀ b ∈ O, b < w'.heap.size ∧ ¬ F' b ∧ w.heap.size ≤ b := by
    rintro ⟨vs', v', T, M, h1, h2, h3, h4, h5⟩
    obtain ⟨val, k1, k2⟩ := results_sound hi h1
    obtain ⟨O, k3, k4, k5⟩ := Exp.sound hi h2 val k2 h3 h4
    refine ⟨hi.defers, val, k1, val, v', FT F' ρ T, O, rfl, h5, hi.ext, fun b hb => .inl (hi.frz0 b hb), fun b hb => ?_, fun b hb => ?_, k3, k5, fun b hb => ?_⟩
    · rcases hb with hb | ⟨n, hn, l, hl, rfl⟩
      · rcases hi.frz1 b hb with h6 | h6 | h6
        · exact .inl h6
        · cases h6
        · exact .inr h6
      · obtain ⟨x, hx⟩ := Option.isSome_iff_exists.1 (h2.some n hn)
        obtain ⟨p1, p2, p3⟩ := hi.place n x l hx hl
        cases hxf : x.frz with
        | true =>
          rcases hi.frz1 _ (p2 hxf) with h6 | h6 | h6
          · exact .inl h6
          · cases h6
          · exact .inr h6
        | false =>
          rcases (p3 hxf).2 with h6 | h6
          · cases h6
          · exact .inr h6
    · rcases hb with hb | ⟨n, hn, l, hl, rfl⟩
      · exact hi.frzlt b hb
      · obtain ⟨x, hx⟩ := Option.isSome_iff_exists.1 (h2.some n hn)
        exact (hi.place n x l hx hl).1
    · obtain ⟨n, hn, x, lc, hx, hxf, hl, rfl⟩ := k4 b hb
      obtain ⟨p1, p2, p3⟩ := hi.place n x lc hx hl
      refine ⟨p1, ?_, ?_⟩
      · rintro (h6 | ⟨n', hn', l', hl', he⟩)
        · exact (p3 hxf).1 h6
        · obtain ⟨x', hx'⟩ := Option.isSome_iff_exists.1 (h2.some n' hn')
          cases hxf' : x'.frz with
          | true => exact (p3 hxf).1 (he ▸ (hi.place n' x' l' hx' hl').2.1 hxf')
          | false =>
            have := hi.inj n n' x x' lc l' hx hx' hxf hxf' hl hl' he.symm
            subst this
            exact h4 n hn hn'
      · rcases (p3 hxf).2 with h6 | h6
        · cases h6
        · exact h6
  cases ex with
  | normal => exact key hq
  | ret => exact key hq
  | exit id => exact hq.elim
end Go.Proofs.Ytpepcfombibpeaa.Mv
