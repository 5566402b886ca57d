/- Regions whose operations may be done in any order that their edges allow: the text's order tells them all. -/
import Derived.Test.YtpepcfombibpeaaMv15
set_option linter.unusedVariables false
set_option linter.unusedSimpArgs false
namespace Go.Proofs.Ytpepcfombibpeaa.Mv

def BB (ops : Array Oper) (j : Nat) : Nat := (Region.before ops).getD j 0
def edgesOK (ops : Array Oper) (B : Nat → Nat) : Bool :=
  (List.range ops.size).all fun j =>
    match ops[j]? with
    | none => true
    | some o => (o.after.toList.all fun e => !Region.binds .any e || decide (e.on < j)) &&
      (List.range ops.size).all fun k => !(B j).testBit k || o.after.toList.any fun e => Region.binds .any e && (Nat.beq e.on k || (B e.on).testBit k)
def pairsOK (ops : Array Oper) (B : Nat → Nat) (l : List (Nat × List Nat × List Nat)) : Bool :=
  l.all fun y => l.all fun x => !decide (x.1 < y.1) || ((B y.1).testBit x.1 ||
    (match ops[x.1]?, ops[y.1]? with
     | some o, some o' => freeB ops o o' x.2.1 x.2.2 y.2.1 y.2.2
     | _, _ => true))

def DOps (P : Program) (nb : Nat) (ops : Array Oper) (Q : St → Prop) : List Nat → List (Nat × List Nat × List Nat) → St → Prop
  | [], acc, st => (edgesOK ops (BB ops) && pairsOK ops (BB ops) acc) = true ∧ Q st
  | i :: r, acc, st =>
    match ops[i]? with
    | none => False
    | some o =>
      match wantedL ops o st.ts with
      | some true => ∃ d, DOp P nb o st d ∧ DOps P nb ops Q r ((i, Wn d.eff, d.R) :: acc) ⟨putS st.ts o.dst d.v, effM st.m d.eff⟩
      | some false => DOps P nb ops Q r ((i, [], []) :: acc) ⟨putS st.ts o.dst .skip, st.m⟩
      | none => False

def projD (x : Nat × D) : Nat × List Nat × List Nat := (x.1, Wn x.2.eff, x.2.R)

theorem DOps.trace {P : Program} {nb : Nat} {ops : Array Oper} {Q : St → Prop} : ∀ {l : List Nat} {acc : List (Nat × List Nat × List Nat)} {st : St}, DOps P nb ops Q l acc st →
    ∃ rem st', Run P nb ops rem st st' ∧ rem.map (·.1) = l ∧ Q st' ∧ edgesOK ops (BB ops) = true ∧ ∃ acc', pairsOK ops (BB ops) acc' = true ∧ ∀ x, x ∈ rem.map projD ∨ x ∈ acc → x ∈ acc'
  | [], acc, st, h => by
    obtain ⟨h1, h2⟩ := h
    rw [Bool.and_eq_true] at h1
    exact ⟨[], st, rfl, rfl, h2, h1.1, acc, h1.2, fun x hx => hx.resolve_left (by simp)⟩
  | i :: r, acc, st, h => by
    simp only [DOps] at h
    cases ho : ops[i]? with
    | none => rw [ho] at h; exact h.elim
    | some o =>
      rw [ho] at h
      simp only at h
      cases hw : wantedL ops o st.ts with
      | none => rw [hw] at h; exact h.elim
      | some b =>
        rw [hw] at h
        cases b with
        | true =>
          obtain ⟨d, hd, h⟩ := h
          obtain ⟨rem, st', h1, h2, h3, h4, acc', h5, h6⟩ := DOps.trace h
          refine ⟨(i, d) :: rem, st', ⟨o, ho, .inl ⟨hw, hd⟩, h1⟩, by simp [h2], h3, h4, acc', h5, fun x hx => ?_⟩
          rcases hx with hx | hx
          · rcases List.mem_cons.1 hx with hx | hx
            · exact h6 x (.inr (by rw [hx]; exact List.mem_cons_self ..))
            · exact h6 x (.inl hx)
          · exact h6 x (.inr (List.mem_cons_of_mem _ hx))
        | false =>
          obtain ⟨rem, st', h1, h2, h3, h4, acc', h5, h6⟩ := DOps.trace h
          refine ⟨(i, ⟨.skip, [], []⟩) :: rem, st', ⟨o, ho, .inr ⟨hw, rfl⟩, h1⟩, by simp [h2], h3, h4, acc', h5, fun x hx => ?_⟩
          rcases hx with hx | hx
          · rcases List.mem_cons.1 hx with hx | hx
            · exact h6 x (.inr (by rw [hx]; exact List.mem_cons_self ..))
            · exact h6 x (.inl hx)
          · exact h6 x (.inr (List.mem_cons_of_mem _ hx))

theorem edges_lt {ops : Array Oper} {B : Nat → Nat} (h : edgesOK ops B = true) {j : Nat} {o : Oper} (ho : ops[j]? = some o) {e : Edge} (he : e ∈ o.after) (hb : Region.binds .any e = true) : e.on < j := by
  unfold edgesOK at h
  rw [List.all_eq_true] at h
  have hj : j < ops.size := (Array.getElem?_eq_some_iff.1 ho).1
  have := h j (List.mem_range.2 hj)
  rw [ho] at this
  simp only [Bool.and_eq_true, List.all_eq_true] at this
  have h2 := this.1 e (by simpa using he)
  rw [hb] at h2
  simpa using h2
theorem edges_bit {ops : Array Oper} {B : Nat → Nat} (h : edgesOK ops B = true) {j k : Nat} {o : Oper} (ho : ops[j]? = some o) (hk : k < ops.size) (hb : (B j).testBit k = true) :
    ∃ e ∈ o.after, Region.binds .any e = true ∧ (e.on = k ∨ (B e.on).testBit k = true) := by
  unfold edgesOK at h
  rw [List.all_eq_true] at h
  have hj : j < ops.size := (Array.getElem?_eq_some_iff.1 ho).1
  have := h j (List.mem_range.2 hj)
  rw [ho] at this
  simp only [Bool.and_eq_true, List.all_eq_true] at this
  have h2 := this.2 k (List.mem_range.2 hk)
  rw [hb] at h2
  simp only [Bool.not_true, Bool.false_or, List.any_eq_true, Bool.and_eq_true, Bool.or_eq_true] at h2
  obtain ⟨e, he, h3, h4⟩ := h2
  exact ⟨e, by simpa using he, h3, h4.imp (fun h => Nat.eq_of_beq_eq_true h) id⟩

/-- What an operation waits for is done, where what it waits for at first hand is done. -/
theorem closed_bit {ops : Array Oper} {B : Nat → Nat} (h : edgesOK ops B = true) (S : Nat → Prop) (hS : ∀ j o, ops[j]? = some o → ¬ S j → ∀ e ∈ o.after, Region.binds .any e = true → ¬ S e.on) :
    ∀ (j : Nat) {o : Oper}, ops[j]? = some o → (∀ e ∈ o.after, Region.binds .any e = true → ¬ S e.on) → ∀ {k : Nat}, k < ops.size → (B j).testBit k = true → ¬ S k := by
  intro j
  induction j using Nat.strongRecOn with
  | _ j ih =>
    intro o ho he k hk hb
    obtain ⟨e, h1, h2, h3⟩ := edges_bit h ho hk hb
    rcases h3 with h3 | h3
    · rw [← h3]
      exact he e h1 h2
    · have hlt := edges_lt h ho h1 h2
      have hj : j < ops.size := (Array.getElem?_eq_some_iff.1 ho).1
      have ho' : ops[e.on]? = some (ops[e.on]'(by omega)) := Array.getElem?_eq_getElem _
      exact ih e.on hlt ho' (hS e.on _ ho' (he e h1 h2)) hk h3

theorem pairs_free {ops : Array Oper} {B : Nat → Nat} {acc : List (Nat × List Nat × List Nat)} (h : pairsOK ops B acc = true) {x y : Nat × D} (hx : projD x ∈ acc) (hy : projD y ∈ acc) (hlt : x.1 < y.1) (hb : (B y.1).testBit x.1 = false) : FreeP ops x y := by
  unfold pairsOK at h
  rw [List.all_eq_true] at h
  have h1 := h _ hy
  rw [List.all_eq_true] at h1
  have h2 := h1 _ hx
  intro o o' ho ho'
  simp only [projD] at h2
  rw [ho, ho'] at h2
  simpa [hlt, hb] using h2

section
variable {P : Program} {X : Ctx}
theorem Step.sound {I : InlP} (hI : InlS P I) {nb n : Nat} {ops : Array Oper} {o : Oper} {st : St} {d : D} {a : Act} {w : World} {F : Nat → Prop} {ρ : Locs} {i : Nat} {Q : Exit → Act → World → Prop} {K : Act → World → Prop}
    (hs : Step P nb ops o st d) (ho : ops[i]? = some o) (hdo : dstOK n o = true) (h : Inv X st a w F ρ) (hn : a.tmps.size = n)
    (hk : ∀ a' w' F' ρ', Inv X (nextS o st d) a' w' F' ρ' → a'.tmps.size = n → K a' w') : wpOp P ops Q i K a w := by
  have hdst : ∀ i, o.dst = some i → i < a.tmps.size := by
    intro i hi
    unfold dstOK at hdo
    rw [hi] at hdo
    rw [hn]
    exact of_decide_eq_true hdo
  have hsz : ∀ v, (a.put o.dst v).tmps.size = n := by
    intro v
    cases o.dst <;> simp [Act.put, hn]
  unfold wpOp
  simp only [ho]
  rcases hs with ⟨h1, h2⟩ | ⟨h1, h2⟩
  · rw [wanted_sound h h1]
    simp only [if_true]
    refine .inl (WpOp.sound hI h2.wp h fun v m val w' F' ρ' hK hI' hv => ?_)
    obtain ⟨rfl, rfl⟩ := hK
    exact hk _ _ F' ρ' (hI'.put hdst hv) (hsz _)
  · subst h2
    rw [wanted_sound h h1]
    simp only [Bool.false_eq_true, if_false]
    exact hk _ _ F ρ (h.put hdst (.frz .skip)) (hsz _)

theorem draw_sound {I : InlP} (hI : InlS P I) {nb n : Nat} {ops : Array Oper} (hd : ∀ (i : Nat) o, ops[i]? = some o → dstOK n o = true) {Q : Ex → St → Prop} {st' : St} (hq : Q .normal st')
    (he : edgesOK ops (BB ops) = true) {acc : List (Nat × List Nat × List Nat)} (hp : pairsOK ops (BB ops) acc = true) :
    ∀ (fuel : Nat) {rem : List (Nat × D)} {st : St} {a : Act} {w : World} {F : Nat → Prop} {ρ : Locs} {listed : Array Bool}, rem.length = fuel → Run P nb ops rem st st' → Inv X st a w F ρ → a.tmps.size = n →
      listed.size = ops.size → (∀ i : Nat, listed[i]? = some false ↔ i ∈ rem.map (·.1)) → (rem.Pairwise fun x y => x.1 < y.1) → (∀ x ∈ rem, projD x ∈ acc) →
      (∀ j o, ops[j]? = some o → ¬ j ∈ rem.map (·.1) → ∀ e ∈ o.after, Region.binds .any e = true → ¬ e.on ∈ rem.map (·.1)) →
      wpAny P .any ops (Post X n Q) fuel listed a w := by
  intro fuel
  induction fuel with
  | zero =>
    intro rem st a w F ρ listed hl hr h hn hsz hrem hpw hacc hcl
    have : rem = [] := List.eq_nil_of_length_eq_zero hl
    subst this
    have hst : st = st' := hr
    subst hst
    refine ⟨?_, .normal, st, F, ρ, rfl, hq, h, hn⟩
    cases hrd : Region.ready .any ops listed with
    | nil => rfl
    | cons i r =>
      have hi : i ∈ Region.ready .any ops listed := by rw [hrd]; exact List.mem_cons_self ..
      obtain ⟨h1, o, ho, -⟩ := mem_ready.1 hi
      have hlt : i < listed.size := by rw [hsz]; exact (Array.getElem?_eq_some_iff.1 ho).1
      have : listed[i]? = some false := by
        rw [Array.getD_eq_getD_getElem?, Array.getElem?_eq_getElem hlt] at h1
        rw [Array.getElem?_eq_getElem hlt]
        simpa using h1
      exact absurd ((hrem i).1 this) (by simp)
  | succ fuel ih =>
    intro rem st a w F ρ listed hl hr h hn hsz hrem hpw hacc hcl
    have hidx : ∀ x ∈ rem, x.1 < ops.size := by
      intro x hx
      have := (hrem x.1).2 (List.mem_map.2 ⟨x, hx, rfl⟩)
      rw [← hsz]
      exact (Array.getElem?_eq_some_iff.1 this).1
    refine ⟨fun hnil => ?_, fun i hi => ?_⟩
    · exfalso
      cases hrm : rem with
      | nil => rw [hrm] at hl; cases hl
      | cons x r =>
        subst hrm
        have hx := hidx x (List.mem_cons_self ..)
        have hx2 := (hrem x.1).2 (by simp)
        have ho : ops[x.1]? = some (ops[x.1]'hx) := Array.getElem?_eq_getElem _
        have : x.1 ∈ Region.ready .any ops listed := by
          refine mem_ready.2 ⟨by rw [Array.getD_eq_getD_getElem?, hx2]; rfl, _, ho, fun e hee hb => ?_⟩
          have hlt := edges_lt he ho hee hb
          have hno : ¬ e.on ∈ (x :: r).map (·.1) := by
            intro hm
            obtain ⟨y, hy, hye⟩ := List.mem_map.1 hm
            rcases List.mem_cons.1 hy with hy | hy
            · subst hy; omega
            · have := (List.pairwise_cons.1 hpw).1 y hy
              omega
          have hlt2 : e.on < listed.size := by omega
          rw [Array.getD_eq_getD_getElem?, Array.getElem?_eq_getElem hlt2]
          simp only [Option.getD_some]
          cases hbb : listed[e.on]'hlt2 with
          | true => rfl
          | false => exact absurd ((hrem e.on).1 (by rw [Array.getElem?_eq_getElem hlt2, hbb])) hno
        rw [hnil] at this
        cases this
    · obtain ⟨h1, o, ho, hdep⟩ := mem_ready.1 hi
      have hlt : i < ops.size := (Array.getElem?_eq_some_iff.1 ho).1
      have hlt2 : i < listed.size := by omega
      have hif : listed[i]? = some false := by
        rw [Array.getD_eq_getD_getElem?, Array.getElem?_eq_getElem hlt2] at h1
        rw [Array.getElem?_eq_getElem hlt2]
        simpa using h1
      obtain ⟨x, hx, hxi⟩ := List.mem_map.1 ((hrem i).1 hif)
      subst hxi
      obtain ⟨l1, l2, hsp⟩ := List.append_of_mem hx
      subst hsp
      have hdep' : ∀ e ∈ o.after, Region.binds .any e = true → ¬ e.on ∈ (l1 ++ x :: l2).map (·.1) := by
        intro e hee hb hm
        have h2 := (hrem e.on).2 hm
        have h3 := hdep e hee hb
        rw [Array.getD_eq_getD_getElem?, h2] at h3
        cases h3
      have hpw2 := List.pairwise_append.1 hpw
      have hfree : ∀ y ∈ l1, FreeP ops y x := by
        intro y hy
        have hym : y ∈ l1 ++ x :: l2 := List.mem_append_left _ hy
        refine pairs_free hp (hacc y hym) (hacc x hx) (hpw2.2.2 y hy x (List.mem_cons_self ..)) ?_
        cases hb : (BB ops x.1).testBit y.1 with
        | false => rfl
        | true => exact absurd (List.mem_map.2 ⟨y, hym, rfl⟩) (closed_bit he (fun k => k ∈ (l1 ++ x :: l2).map (·.1)) hcl x.1 ho hdep' (hidx y hym) hb)
      obtain ⟨o', ho', hst, hrun⟩ := Run.pull hr hfree
      rw [ho] at ho'
      injection ho' with ho'
      subst ho'
      have hx1 : ∀ y ∈ l1 ++ l2, y.1 ≠ x.1 := by
        intro y hy
        rcases List.mem_append.1 hy with hy | hy
        · have := hpw2.2.2 y hy x (List.mem_cons_self ..)
          omega
        · have := (List.pairwise_cons.1 hpw2.2.1).1 y hy
          omega
      have hmem : ∀ k, k ∈ (l1 ++ x :: l2).map (·.1) ↔ k = x.1 ∨ k ∈ (l1 ++ l2).map (·.1) := by
        intro k
        simp only [List.map_append, List.map_cons, List.mem_append, List.mem_cons]
        constructor
        · rintro (h | h | h)
          · exact .inr (.inl h)
          · exact .inl h
          · exact .inr (.inr h)
        · rintro (h | h | h)
          · exact .inr (.inl h)
          · exact .inl h
          · exact .inr (.inr h)
      refine Step.sound hI hst ho (hd _ _ ho) h hn fun a' w' F' ρ' hI' hn' => ?_
      refine ih (rem := l1 ++ l2) (by simp at hl ⊢; omega) hrun hI' hn' (by simp [hsz]) (fun k => ?_) ?_ (fun y hy => hacc y ?_) (fun j oj hoj hj e hee hb hm => ?_)
      · by_cases hk : x.1 = k
        · subst hk
          rw [Array.getElem?_setIfInBounds_self_of_lt hlt2]
          refine ⟨fun h => (by cases h), fun hm => ?_⟩
          obtain ⟨y, hy, hye⟩ := List.mem_map.1 hm
          exact absurd hye (hx1 y hy)
        · rw [Array.getElem?_setIfInBounds_ne hk, hrem k, hmem k]
          exact ⟨fun h => h.resolve_left (Ne.symm hk), .inr⟩
      · exact List.pairwise_append.2 ⟨hpw2.1, (List.pairwise_cons.1 hpw2.2.1).2, fun y hy z hz => hpw2.2.2 y hy z (List.mem_cons_of_mem _ hz)⟩
      · rcases List.mem_append.1 hy with hy | hy
        · exact List.mem_append_left _ hy
        · exact List.mem_append_right _ (List.mem_cons_of_mem _ hy)
      · by_cases hjx : j = x.1
        · subst hjx
          rw [ho] at hoj
          injection hoj with hoj
          subst hoj
          exact hdep' e hee hb ((hmem _).2 (.inr hm))
        · exact hcl j oj hoj (fun hm' => (hmem j).1 hm' |>.elim hjx hj) e hee hb ((hmem _).2 (.inr hm))

/-- A drawn region, by the text's order. -/
theorem DOps.sound {I : InlP} (hI : InlS P I) (hmix : P.follows .mixedOrders = true) {nb n id : Nat} {ops : Array Oper} (hd : ∀ (i : Nat) o, ops[i]? = some o → dstOK n o = true) {Q : Ex → St → Prop} {st : St} {a : Act} {w : World} {F : Nat → Prop} {ρ : Locs}
    (hw : DOps P nb ops (Q .normal) (List.range ops.size) [] st) (h : Inv X st a w F ρ) (hn : a.tmps.size = n) : (Code.region id ops true).wp P (Post X n Q) a w := by
  obtain ⟨rem, st', h1, h2, h3, h4, acc, h5, h6⟩ := DOps.trace hw
  refine wp_region_any hmix (draw_sound hI hd h3 h4 h5 ops.size ?_ h1 (h.heap rfl rfl rfl rfl) hn (by simp) (fun i => ?_) ?_ (fun x hx => h6 _ (.inl (List.mem_map.2 ⟨x, hx, rfl⟩))) (fun j o ho hj => ?_))
  · have := congrArg List.length h2
    simpa using this
  · rw [h2, List.mem_range]
    constructor
    · intro hi
      have := (Array.getElem?_eq_some_iff.1 hi).1
      simpa using this
    · intro hi
      rw [Array.getElem?_eq_getElem (by simpa using hi)]
      simp
  · have : (rem.map (·.1)).Pairwise (· < ·) := by rw [h2]; exact List.pairwise_lt_range
    exact List.pairwise_map.1 this
  · exact absurd (by rw [h2, List.mem_range]; exact (Array.getElem?_eq_some_iff.1 ho).1) hj
end
end Go.Proofs.Ytpepcfombibpeaa.Mv
