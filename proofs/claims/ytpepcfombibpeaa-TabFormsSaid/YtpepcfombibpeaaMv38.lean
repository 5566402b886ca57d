/- Results that read no memory; results that are handed over, taken as read only. -/
import Derived.Test.YtpepcfombibpeaaMv37
set_option linter.unusedVariables false
set_option linter.unusedSimpArgs false
namespace Go.Proofs.Ytpepcfombibpeaa.Mv

/-- Scalars: what reads no memory at all. -/
def scaL : LV → Bool
  | .int .. => true
  | .bool _ => true
  | .str _ => true
  | .nilp => true
  | .nils => true
  | .nilm => true
  | _ => false
theorem RelF.sca {w : World} {F F' : Nat → Prop} {v : Value} {l : LV} (hl : scaL l = true) (h : RelF w F v l) : RelF w F' v l := by
  cases h with
  | int k n => exact .int k n
  | bool b => exact .bool b
  | str s => exact .str s
  | nilp => exact .nilp
  | nils => exact .nils
  | nilm => exact .nilm
  | skip => simp [scaL] at hl
  | undef => simp [scaL] at hl
  | sl => simp [scaL] at hl
  | fad => simp [scaL] at hl
  | fmap0 => simp [scaL] at hl
  | fmap => simp [scaL] at hl
  | agg => simp [scaL] at hl
  | tup => simp [scaL] at hl
  | fn => simp [scaL] at hl
theorem FlatI.sca {l : LV} (hl : scaL l = true) : FlatI l := by
  intro w F F' v O h
  cases h with
  | frz h => exact .frz (h.sca hl)
  | slo0 => simp [scaL] at hl
  | slo => simp [scaL] at hl
  | aggn => simp [scaL] at hl
  | aggc => simp [scaL] at hl
  | tup => simp [scaL] at hl
  | ptro => simp [scaL] at hl
theorem FlatI.slo {sz : Nat} {es : List (List LV)} (hl : ∀ e ∈ es, ∀ l ∈ e, scaL l = true) : FlatI (.slo sz es) := by
  intro w F F' v O h
  cases h with
  | frz h => cases h
  | slo0 => exact .slo0
  | slo h1 h2 h3 h4 h5 h6 =>
    exact .slo h1 h2 h3 h4 h5 fun i e c q he hq => let ⟨u, hu, hr⟩ := h6 i e c q he hq
      ⟨u, hu, hr.sca (hl e (List.mem_of_getElem? he) q (List.mem_of_getElem? hq))⟩
theorem FlatI.aggn : FlatI (.agg []) := by
  intro w F F' v O h
  obtain ⟨rfl, rfl⟩ := h.nil
  exact .aggn
theorem FlatI.aggc {l : LV} {ls : List LV} (h1 : FlatI l) (h2 : FlatI (.agg ls)) : FlatI (.agg (l :: ls)) := by
  intro w F F' v O h
  obtain ⟨u, us, O1, O2, rfl, rfl, q1, q2⟩ := h.uncons
  exact .aggc (h1 w F F' _ _ q1) (h2 w F F' _ _ q2)
theorem FlatI.tup {ls : List LV} (h1 : FlatI (.agg ls)) : FlatI (.tup ls) := by
  intro w F F' v O h
  cases h with
  | frz h =>
    cases h with
    | tup hn h => exact .tup (h1 w F F' _ _ (.frz (.agg hn h)))
  | tup h => exact .tup (h1 w F F' _ _ h)
theorem flat_ni (l : List Int) : ∀ e ∈ em ni l, ∀ q ∈ e, scaL q = true := by
  intro e he
  obtain ⟨a, -, rfl⟩ := List.mem_map.1 he
  simp [ni, scaL]

/-! ### Taking a result as read only -/
def fzC : LV → LV
  | .slo _ es => .sl es
  | l => l
def fzV : LV → LV
  | .agg cs => .agg (cs.map fzC)
  | l => fzC l
def fzT : LV → LV
  | .tup vs => .tup (vs.map fzV)
  | l => fzV l
def FO (F : Nat → Prop) (O : List Nat) : Nat → Prop := fun b => F b ∨ b ∈ O
theorem RelI.fzC {w : World} {F : Nat → Prop} {v : Value} {l : LV} {O : List Nat} (h : RelI w F v l O) (hc : cellI l = true) : RelF w (FO F O) v (fzC l) := by
  cases h with
  | frz h =>
    have e : Mv.fzC l = l := by cases l <;> first | rfl | cases h
    rw [e]
    exact h.mono (fun _ h => .inl h) (fun _ _ => rfl)
  | slo0 => exact .sl (blk := 0) (off := 0) (sz := 0) (fun _ _ => undef) rfl (Nat.le_refl _) (fun h => absurd h (by omega)) (by simp) (by simp) (by simp)
  | @slo blk off len cap sz es cs t h1 h2 h3 h4 h5 h6 =>
    have hv : ∀ (i : Nat) e (c : Nat) q, es[i]? = some e → e[c]? = some q → ∃ u, w.cell? ⟨blk, off + (i * sz + c), none⟩ = some u ∧ RelF w F u q := fun i e c q he hq => by
      obtain ⟨u, hu, hr⟩ := h6 i e c q he hq
      exact ⟨u, by simp only [World.cell?, h3]; exact hu, hr⟩
    refine .sl (blk := blk) (off := off) (sz := sz) (fun i c => (w.cell? ⟨blk, off + (i * sz + c), none⟩).getD undef) h1 h2 (fun _ => ⟨rfl, .inr (by simp)⟩) h5 (fun i e c q he hq => ?_) fun i e c q he hq => ?_
    · obtain ⟨u, hu, hr⟩ := hv i e c q he hq
      rw [hu]; rfl
    · obtain ⟨u, hu, hr⟩ := hv i e c q he hq
      rw [hu]
      exact hr.mono (fun _ h => .inl h) (fun _ _ => rfl)
  | aggn => cases hc
  | aggc => cases hc
  | tup => cases hc
  | ptro => cases hc
theorem RelI.fzCs {w : World} {F : Nat → Prop} : ∀ {ls : List LV} {v : Value} {O : List Nat}, RelI w F v (.agg ls) O → ls.all cellI = true → RelF w (FO F O) v (.agg (ls.map Mv.fzC))
  | [], v, O, h, _ => by
    obtain ⟨rfl, rfl⟩ := h.nil
    exact RelF.nil
  | l :: ls, v, O, h, hc => by
    simp only [List.all_cons, Bool.and_eq_true] at hc
    obtain ⟨u, us, O1, O2, rfl, rfl, q1, q2⟩ := h.uncons
    exact RelF.cons ((q1.fzC hc.1).mono (fun b hb => hb.imp id fun hb => List.mem_append_left _ hb) (fun _ _ => rfl)) ((RelI.fzCs q2 hc.2).mono (fun b hb => hb.imp id fun hb => List.mem_append_right _ hb) (fun _ _ => rfl))
theorem RelI.fzV {w : World} {F : Nat → Prop} {v : Value} {l : LV} {O : List Nat} (h : RelI w F v l O) (hc : valI l = true) : RelF w (FO F O) v (fzV l) := by
  cases l with
  | agg cs => exact h.fzCs hc
  | _ => exact h.fzC hc
theorem RelI.fzVs {w : World} {F : Nat → Prop} : ∀ {ls : List LV} {v : Value} {O : List Nat}, RelI w F v (.agg ls) O → ls.all valI = true → RelF w (FO F O) v (.agg (ls.map Mv.fzV))
  | [], v, O, h, _ => by
    obtain ⟨rfl, rfl⟩ := h.nil
    exact RelF.nil
  | l :: ls, v, O, h, hc => by
    simp only [List.all_cons, Bool.and_eq_true] at hc
    obtain ⟨u, us, O1, O2, rfl, rfl, q1, q2⟩ := h.uncons
    exact RelF.cons ((q1.fzV hc.1).mono (fun b hb => hb.imp id fun hb => List.mem_append_left _ hb) (fun _ _ => rfl)) ((RelI.fzVs q2 hc.2).mono (fun b hb => hb.imp id fun hb => List.mem_append_right _ hb) (fun _ _ => rfl))
def topF : LV → Bool
  | .tup vs => vs.all valI
  | l => valI l
theorem RelI.fzT {w : World} {F : Nat → Prop} {v : Value} {l : LV} {O : List Nat} (h : RelI w F v l O) (hc : topF l = true) : RelF w (FO F O) v (fzT l) := by
  cases l with
  | tup vs =>
    have hc' : vs.all valI = true := hc
    cases h with
    | frz h =>
      cases h with
      | tup hn h =>
        obtain ⟨cs, e1, e2, e3⟩ := (RelI.fzVs (.frz (.agg hn h)) hc').cells
        injection e1 with e1
        subst e1
        exact .tup e2 e3
    | tup h =>
      obtain ⟨cs, e1, e2, e3⟩ := (RelI.fzVs h hc').cells
      injection e1 with e1
      subst e1
      exact .tup e2 e3
  | _ => exact h.fzV hc
/-- A contract whose result is handed over is one whose result is only read. -/
theorem CallsV.freeze {P : Program} {f : FuncId} {args : List LV} {res : LV} (h : CallsV P f args res) (hc : topF res = true) : CallsV P f args (fzT res) := by
  refine ⟨h.1, fun w F vs hr hF => (h.2 w F vs hr hF).mono fun e w' he => ?_⟩
  obtain ⟨v, r, F', O, rfl, hR, q1, q2, q3, q4, q5, q6, q7⟩ := he
  subst hR
  refine ⟨v, _, FO F' O, [], rfl, rfl, q1, fun b hb => .inl (q2 b hb), fun b hb => ?_, fun b hb => ?_, .frz (q5.fzT hc), List.nodup_nil, by simp⟩
  · rcases hb with hb | hb
    · exact q3 b hb
    · exact .inr (q7 b hb).2.2
  · rcases hb with hb | hb
    · exact q4 b hb
    · exact (q7 b hb).1

section
variable {P : Program} {I : InlP} {nb : Nat} {Q : Ex → St → Prop} {ops : Array Oper} {K : St → Prop} {r : List Oper} {ts : Slots} {m : Mem} {t : Nat} {ty : TypeId} {pos : String} {af : Array Edge} {i : Nat} {acc : List (Nat × List Nat × List Nat)}
/-- A call whose result reads no memory: what was handed in may be written again behind it. -/
theorem GL.callFl (hI : InlM I) {g : Operand} {as : Array Operand} {tys : Array TypeId} {f : FuncId} {caps args : List LV} {T : List Nat} {res v : LV} {e : List (Nat × Box)} (hg : evalO ts g = .fn f caps) (hf : Frz m (.agg (as.toList.map (evalO ts) ++ caps)) (.agg args) T) (hc : CallsV P f args res)
    (hl : FlatI res) (ht : topI res = true) (hr : impT m (nb + 64 * t) res = (v, e)) (k : GL P I nb ops K false r (i + 1) acc ⟨updS ts t v, effM m e⟩) :
    GL P I nb ops K false (⟨some t, .call { callee := .value g, args := as, argTypes := tys }, ty, pos, af, none⟩ :: r) i acc ⟨ts, m⟩ := by
  simp only [GL, wantedL]
  refine .callF (o := ⟨some t, .call { callee := .value g, args := as, argTypes := tys }, ty, pos, af, none⟩) rfl hg hf hc fun r' hr' => ?_
  subst hr'
  refine ⟨hl, ht, ?_⟩
  simp only [nameO, Option.getD_some, hr]
  exact GL.accI hI k
end
end Go.Proofs.Ytpepcfombibpeaa.Mv
