/- Calls by their contracts, code, and what they come to: the calculus and its soundness. -/
import Derived.Test.YtpepcfombibpeaaMv12
set_option linter.unusedVariables false
set_option linter.unusedSimpArgs false
namespace Go.Proofs.Ytpepcfombibpeaa.Mv

inductive Ex where
  | normal
  | exit (id : Nat)
  | ret
def Ex.to : Ex → Exit
  | .normal => .normal
  | .exit id => .exit id
  | .ret => .ret

def FuncOK (P : Program) (f : FuncId) : Prop := ∃ fn, P.funcs[f]? = some fn ∧ (fn.name == "runtime.NumGoroutine") = false ∧ fn.body.isNone = false

/-- The contract of a function: of what is only read it makes one of some results, in new memory. -/
def CallsR (P : Program) (f : FuncId) (args : List LV) (R : LV → Prop) : Prop :=
  FuncOK P f ∧ ∀ (w : World) (F : Nat → Prop) (vs : Array Value), RelF w F (.agg vs) (.agg args) → (∀ b, F b → b < w.heap.size) →
    Calls P f vs w fun e w' => ∃ v res F' O, e = .returned v ∧ R res ∧ Ext [] w w' ∧ (∀ b, F b → F' b) ∧ (∀ b, F' b → F b ∨ w.heap.size ≤ b) ∧ (∀ b, F' b → b < w'.heap.size) ∧
      RelI w' F' v res O ∧ O.Nodup ∧ ∀ b ∈ O, b < w'.heap.size ∧ ¬ F' b ∧ w.heap.size ≤ b
def CallsV (P : Program) (f : FuncId) (args : List LV) (res : LV) : Prop := CallsR P f args (· = res)

/-- A result that reads no memory. -/
def FlatI (l : LV) : Prop := ∀ (w : World) (F F' : Nat → Prop) (v : Value) (O : List Nat), RelI w F v l O → RelI w F' v l O

/-- A predicate for calls that are entered in place. -/
abbrev InlP := Nat → FuncId → List LV → Mem → (LV → Mem → Prop) → Prop
def InlS (P : Program) (I : InlP) : Prop :=
  ∀ nb f args m R, I nb f args m R → FuncOK P f ∧ ∀ X a w F ρ ts, Inv X ⟨ts, m⟩ a w F ρ → ∀ vs, RelL w F ρ m (.agg vs) (.agg args) →
    Calls P f vs w fun e w' => ∃ v r m' F' ρ', e = .returned v ∧ R r m' ∧ Inv X ⟨ts, m'⟩ a w' F' ρ' ∧ RelL w' F' ρ' m' v r

/-- The name of what an operation makes. -/
def nameO (nb : Nat) (o : Oper) : Nat := nb + 64 * o.dst.getD 4000

inductive WpOp (P : Program) (I : InlP) (nb : Nat) (o : Oper) (st : St) (K : LV → Mem → Prop) : Prop
  | op {v : LV} {eff : List (Nat × Box)} {R : List Nat} (h : OpR P (nameO nb o) (evalO st.ts) st.m o.op v eff R) (k : K v (effM st.m eff)) : WpOp P I nb o st K
  | call {g : Operand} {as : Array Operand} {ts : Array TypeId} {f : FuncId} {caps args : List LV} {T : List Nat} {R : LV → Prop} (ho : o.op = .call { callee := .value g, args := as, argTypes := ts }) (hg : evalO st.ts g = .fn f caps)
      (hf : Frz st.m (.agg (as.toList.map (evalO st.ts) ++ caps)) (.agg args) T) (hc : CallsR P f args R)
      (k : ∀ res, R res → topI res = true ∧ K (impT (effM st.m (markE st.m T)) (nameO nb o) res).1 (effM (effM st.m (markE st.m T)) (impT (effM st.m (markE st.m T)) (nameO nb o) res).2)) : WpOp P I nb o st K
  | callF {g : Operand} {as : Array Operand} {ts : Array TypeId} {f : FuncId} {caps args : List LV} {T : List Nat} {R : LV → Prop} (ho : o.op = .call { callee := .value g, args := as, argTypes := ts }) (hg : evalO st.ts g = .fn f caps)
      (hf : Frz st.m (.agg (as.toList.map (evalO st.ts) ++ caps)) (.agg args) T) (hc : CallsR P f args R)
      (k : ∀ res, R res → FlatI res ∧ topI res = true ∧ K (impT st.m (nameO nb o) res).1 (effM st.m (impT st.m (nameO nb o) res).2)) : WpOp P I nb o st K
  | inl {g : Operand} {as : Array Operand} {ts : Array TypeId} {f : FuncId} {caps : List LV} {nb' : Nat} (ho : o.op = .call { callee := .value g, args := as, argTypes := ts }) (hg : evalO st.ts g = .fn f caps)
      (k : I nb' f (as.toList.map (evalO st.ts) ++ caps) st.m K) : WpOp P I nb o st K

def wantedL (ops : Array Oper) (o : Oper) (f : Slots) : Option Bool :=
  match o.guard with
  | none => some true
  | some (j, want) =>
    match (ops[j]?).bind (·.dst) with
    | some t =>
      match f t with
      | .bool b => some (b == want)
      | .skip => some false
      | _ => none
    | none => none

def WpOps (P : Program) (I : InlP) (nb : Nat) (ops : Array Oper) (Q : St → Prop) : List Nat → St → Prop
  | [], st => Q st
  | i :: r, st =>
    match ops[i]? with
    | none => WpOps P I nb ops Q r st
    | some o =>
      match wantedL ops o st.ts with
      | some true => WpOp P I nb o st fun v m => WpOps P I nb ops Q r ⟨putS st.ts o.dst v, m⟩
      | some false => WpOps P I nb ops Q r ⟨putS st.ts o.dst .skip, st.m⟩
      | none => False

def dstOK (n : Nat) (o : Oper) : Bool :=
  match o.dst with
  | some d => decide (d < n)
  | none => true

/-- What holds behind a piece of code. -/
def Post (X : Ctx) (n : Nat) (Q : Ex → St → Prop) : Exit → Act → World → Prop := fun e a w => ∃ ex st F ρ, ex.to = e ∧ Q ex st ∧ Inv X st a w F ρ ∧ a.tmps.size = n

section
variable {P : Program} {X : Ctx} {st : St} {a : Act} {w : World} {F : Nat → Prop} {ρ : Locs}

theorem run_call {g : Operand} {as : Array Operand} {ts : Array TypeId} {f : FuncId} {caps : Array Value} {dst : Option Tmp} {ty : TypeId} {pos : String} {after : Array Edge} {guard : Option (Nat × Bool)} (hok : FuncOK P f)
    (hg : a.eval g = .func (.func f) #[] caps) :
    (execOp a.eval { dst := dst, op := .call { callee := .value g, args := as, argTypes := ts }, type := ty, pos := pos, after := after, guard := guard }).run P w = .ok (.enter f (as.map a.eval ++ caps)) w := by
  obtain ⟨fn, h1, h2, h3⟩ := hok
  have h2' : ¬ fn.name = "runtime.NumGoroutine" := by simpa using h2
  have h3' : ¬ fn.body = none := by
    intro h
    rw [h] at h3
    cases h3
  simp [execOp, resolve, hg, Deferred.ofValue, invoke, callFunc, h1, h2', h3']

/-- The arguments of a call. -/
theorem callArgs (h : Inv X st a w F ρ) {g : Operand} {as : Array Operand} {f : FuncId} {caps : List LV} (hg : evalO st.ts g = .fn f caps) :
    ∃ cv : Array Value, a.eval g = .func (.func f) #[] cv ∧ RelL w F ρ st.m (.agg (as.map a.eval ++ cv)) (.agg (as.toList.map (evalO st.ts) ++ caps)) := by
  have hv := h.eval g
  rw [hg] at hv
  obtain ⟨cv, h1, h2⟩ := hv.toFn
  obtain ⟨cs, h3, hn, hr⟩ := h2.cells
  injection h3 with h3
  subst h3
  refine ⟨cv, h1, .agg (by simp [hn]) fun i u l hu hl => ?_⟩
  by_cases hi : i < as.size
  · rw [Array.getElem?_append_left (by simpa using hi)] at hu
    rw [List.getElem?_append_left (by simpa using hi)] at hl
    exact evals_rel h as.toList i u l (by simpa using hu) hl
  · rw [Array.getElem?_append_right (by simp; omega)] at hu
    rw [List.getElem?_append_right (by simp; omega)] at hl
    simp only [Array.size_map, List.length_map, Array.length_toList] at hu hl
    exact hr _ u l hu hl

/-- A call that wrote nothing that was there. -/
theorem Inv.called (h : Inv X st a w F ρ) {w' : World} (he : Ext [] w w') {F' : Nat → Prop} (hF : ∀ b, F b → F' b) (hF1 : ∀ b, F' b → F b ∨ w.heap.size ≤ b) (hF2 : ∀ b, F' b → b < w'.heap.size) : Inv X st a w' F' ρ := by
  have hb : ∀ b : Nat, b < w.heap.size → w'.heap[b]? = w.heap[b]? := fun b hb => he.block b hb (by simp)
  have hw : ∀ b : Nat, F b → w'.heap[b]? = w.heap[b]? := fun b hb' => hb b (h.frzlt b hb')
  have hc : Compat st.m ρ st.m ρ := fun b x hx => ⟨x, hx, .inl ⟨rfl, rfl, rfl, .inr rfl, rfl⟩⟩
  refine ⟨h.defers, fun j => (h.slots j).mono hF hw hc, fun n x hx => (h.boxes n x hx).mono hF hw hc rfl fun l hl => hb _ (h.place n x l hx hl).1, fun n x l hx hl => ?_, h.inj, fun b hb' => hF b (h.frz0 b hb'), fun b hb' => ?_, hF2, h.ext.step he (by simp), fun v l hv => (h.kept v l hv).mono hF hw hc⟩
  · obtain ⟨h1, h2, h3⟩ := h.place n x l hx hl
    refine ⟨Nat.lt_of_lt_of_le h1 he.size, fun hf => hF _ (h2 hf), fun hf => ⟨fun hF' => ?_, (h3 hf).2⟩⟩
    rcases hF1 _ hF' with h4 | h4
    · exact (h3 hf).1 h4
    · omega
  · rcases hF1 b hb' with h4 | h4
    · exact h.frz1 b h4
    · exact .inr (.inr (Nat.le_trans h.ext.size h4))

theorem freeNew (h : Inv X st a w F ρ) {w' : World} {F' : Nat → Prop} {O : List Nat} (hO : ∀ b ∈ O, b < w'.heap.size ∧ ¬ F' b ∧ w.heap.size ≤ b) : FreeB X st w' F' ρ O := by
  intro b hb
  obtain ⟨h1, h2, h3⟩ := hO b hb
  refine ⟨h1, h2, .inr (Nat.le_trans h.ext.size h3), fun k x l hk _ hl he => ?_⟩
  have := (h.place k x l hk hl).1
  omega

theorem WpOp.sound {I : InlP} (hI : InlS P I) {nb : Nat} {o : Oper} {K : LV → Mem → Prop} (hw : WpOp P I nb o st K) (h : Inv X st a w F ρ) {next : Act → World → Prop} {Q : Exit → Act → World → Prop}
    (hk : ∀ v m val w' F' ρ', K v m → Inv X ⟨st.ts, m⟩ a w' F' ρ' → RelL w' F' ρ' m val v → next (a.put o.dst val) w') : o.wp P a w next Q := by
  cases hw with
  | @op v eff R hr k =>
    obtain ⟨nx, val, w', F', ρ', h1, h2, h3, h4⟩ := hr.sound h rfl
    unfold Oper.wp
    rw [h1]
    rcases h2 with rfl | ⟨rfl, rfl⟩
    · exact hk _ _ val w' F' ρ' k h3 h4
    · exact hk _ _ _ w' F' ρ' k h3 h4
  | @call g as ts f caps args T R ho hg hf hc k =>
    obtain ⟨cv, h1, h2⟩ := callArgs h (as := as) hg
    have hargs := Frz.sound h.boxes hf _ h2
    obtain ⟨F1, g1, g2, g3⟩ := h.mark T
    have hF1 : ∀ b, FT F ρ T b → F1 b := fun b hb => g2 b hb hf.some
    obtain ⟨dst, op, ty, pos, after, guard⟩ := o
    simp only at ho
    subst ho
    unfold Oper.wp
    rw [run_call hc.1 h1]
    refine Calls.mono (hc.2 w F1 _ (hargs.mono hF1 (fun _ _ => rfl)) g3.frzlt) fun e w' he => ?_
    obtain ⟨v, res, F', O, rfl, hR, hext, q1, q2, q3, q4, q5, q6⟩ := he
    obtain ⟨ht, hK⟩ := k res hR
    have hI' := g3.called hext q1 q2 q3
    obtain ⟨ρ', k1, k2⟩ := impT_sound hI' q4 (freeNew g3 q6) q5 ht (nameO nb _)
    exact hk _ _ v w' F' ρ' hK k1 k2
  | @callF g as ts f caps args T R ho hg hf hc k =>
    obtain ⟨cv, h1, h2⟩ := callArgs h (as := as) hg
    have hargs := Frz.sound h.boxes hf _ h2
    obtain ⟨F1, g1, g2, g3⟩ := h.mark T
    have hF1 : ∀ b, FT F ρ T b → F1 b := fun b hb => g2 b hb hf.some
    obtain ⟨dst, op, ty, pos, after, guard⟩ := o
    simp only at ho
    subst ho
    unfold Oper.wp
    rw [run_call hc.1 h1]
    refine Calls.mono (hc.2 w F1 _ (hargs.mono hF1 (fun _ _ => rfl)) g3.frzlt) fun e w' he => ?_
    obtain ⟨v, res, F', O, rfl, hR, hext, q1, q2, q3, q4, q5, q6⟩ := he
    obtain ⟨hflat, ht, hK⟩ := k res hR
    have hI' := h.called hext (F' := F) (fun _ h => h) (fun _ h => .inl h) (fun b hb => Nat.lt_of_lt_of_le (h.frzlt b hb) hext.size)
    obtain ⟨ρ', k1, k2⟩ := impT_sound hI' (hflat w' F' F v O q4) (freeNew h fun b hb => ⟨(q6 b hb).1, fun hF => by have := h.frzlt b hF; have := (q6 b hb).2.2; omega, (q6 b hb).2.2⟩) q5 ht (nameO nb _)
    exact hk _ _ v w' F ρ' hK k1 k2
  | @inl g as ts f caps nb' ho hg k =>
    obtain ⟨cv, h1, h2⟩ := callArgs h (as := as) hg
    obtain ⟨hok, hcall⟩ := hI _ _ _ _ _ k
    obtain ⟨dst, op, ty, pos, after, guard⟩ := o
    simp only at ho
    subst ho
    unfold Oper.wp
    rw [run_call hok h1]
    refine Calls.mono (hcall X a w F ρ st.ts h _ h2) fun e w' he => ?_
    obtain ⟨v, r, m', F', ρ', rfl, hR, hI', hv⟩ := he
    exact hk _ _ v w' F' ρ' hR hI' hv

theorem wanted_sound (h : Inv X st a w F ρ) {ops : Array Oper} {o : Oper} {b : Bool} (hw : wantedL ops o st.ts = some b) : Region.wanted o (yielded ops a.tmps) = b := by
  unfold wantedL at hw
  unfold Region.wanted
  cases hg : o.guard with
  | none =>
    rw [hg] at hw
    cases hw
    rfl
  | some jw =>
    obtain ⟨j, want⟩ := jw
    rw [hg] at hw
    simp only at hw ⊢
    cases hd : (ops[j]?).bind (·.dst) with
    | none => rw [hd] at hw; cases hw
    | some t =>
      rw [hd] at hw
      simp only at hw
      unfold yielded
      rw [hd]
      have hs := h.slots t
      split at hw
      · rename_i b' hb'
        injection hw with hw
        subst hw
        rw [hb'] at hs
        have hv := hs.bool
        rw [Array.getD_eq_getD_getElem?] at hv
        cases hq : a.tmps[t]? with
        | none => rw [hq] at hv; cases hv
        | some u =>
          rw [hq] at hv
          simp only [Option.getD_some] at hv
          subst hv
          simp [hq]
      · rename_i hb'
        injection hw with hw
        subst hw
        rw [hb'] at hs
        have hv := hs.skip
        rw [Array.getD_eq_getD_getElem?] at hv
        cases hq : a.tmps[t]? with
        | none => simp [hq]
        | some u =>
          rw [hq] at hv
          simp only [Option.getD_some] at hv
          subst hv
          simp [hq, Go.undef]
      · cases hw

theorem WpOps.sound {I : InlP} (hI : InlS P I) {nb n : Nat} {ops : Array Oper} (hd : ∀ (i : Nat) o, ops[i]? = some o → dstOK n o = true) {Q : Ex → St → Prop} : ∀ (l : List Nat) {st : St} {a : Act} {w : World} {F : Nat → Prop} {ρ : Locs},
    WpOps P I nb ops (Q .normal) l st → Inv X st a w F ρ → a.tmps.size = n → wpOps P ops (Post X n Q) l a w := by
  intro l
  induction l with
  | nil => intro st a w F ρ hw h hn; exact ⟨.normal, st, F, ρ, rfl, hw, h, hn⟩
  | cons i r ih =>
    intro st a w F ρ hw h hn
    simp only [wpOps, WpOps] at hw ⊢
    cases ho : ops[i]? with
    | none =>
      rw [ho] at hw
      exact ih hw h hn
    | some o =>
      rw [ho] at hw
      simp only at hw ⊢
      have hdo := hd i o ho
      have hdst : ∀ i, o.dst = some i → i < a.tmps.size := by
        intro i hi
        unfold dstOK at hdo
        rw [hi] at hdo
        rw [hn]
        exact of_decide_eq_true hdo
      have hsz : ∀ v, (a.put o.dst v).tmps.size = n := by
        intro v
        cases o.dst <;> simp [Act.put, hn]
      cases hwt : wantedL ops o st.ts with
      | none => rw [hwt] at hw; cases hw
      | some b =>
        rw [hwt] at hw
        rw [wanted_sound h hwt]
        cases b with
        | true =>
          simp only [if_true]
          refine .inl (WpOp.sound hI hw h fun v m val w' F' ρ' hK hI' hv => ?_)
          exact ih hK (hI'.put hdst hv) (hsz _)
        | false =>
          simp only [Bool.false_eq_true, if_false]
          exact ih hw (h.put hdst (.frz .skip)) (hsz _)
end
end Go.Proofs.Ytpepcfombibpeaa.Mv
