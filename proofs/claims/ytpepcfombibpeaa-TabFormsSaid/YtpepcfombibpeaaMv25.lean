/- Literals whose parts are slices; calls that are handed what is this call's own. -/
import Derived.Test.YtpepcfombibpeaaMv24
set_option linter.unusedVariables false
set_option linter.unusedSimpArgs false
namespace Go.Proofs.Ytpepcfombibpeaa.Mv
/-- Operands, one by one. -/
inductive EvS (ts : Slots) : List (Nat × Operand) → List (Nat × LV) → Prop
  | nil : EvS ts [] []
  | cons {i : Nat} {x : Operand} {v : LV} {r : List (Nat × Operand)} {r' : List (Nat × LV)} (h : evalO ts x = v) (hs : EvS ts r r') : EvS ts ((i, x) :: r) ((i, v) :: r')
theorem EvS.map {ts : Slots} {ps : List (Nat × Operand)} {vs : List (Nat × LV)} (h : EvS ts ps vs) : (ps.map fun (i, x) => (i, evalO ts x)) = vs := by
  induction h with
  | nil => rfl
  | cons h hs ih => simp only [List.map_cons, h, ih]
theorem EvS.all {ts : Slots} {ps : List (Nat × Operand)} {vs : List (Nat × LV)} (h : EvS ts ps vs) : (ps.all fun p => (cellsL (evalO ts p.2)).all oneC) = vs.all fun p => (cellsL p.2).all oneC := by
  induction h with
  | nil => rfl
  | cons h hs ih => simp only [List.all_cons, h, ih]
/-- Parts of one cell each. -/
def setsL (place : Nat → Option (Nat × Nat)) (n : Nat) : List LV → List (Nat × LV) → Option (List LV)
  | cs, [] => some cs
  | cs, (i, v) :: r =>
    match place i with
    | some (off, 1) => bif oneC v && Nat.blt off n then setsL place n (cs.set off v) r else none
    | _ => none
theorem oneC_cells {v : LV} (h : oneC v = true) : cellsL v = [v] := by
  cases v <;> first | rfl | cases h
theorem setsL_fill {place : Nat → Option (Nat × Nat)} : ∀ {parts : List (Nat × LV)} {cs r : List LV}, setsL place cs.length cs parts = some r → fillL place cs parts = some r
  | [], _, _, h => h
  | (i, v) :: t, cs, r, h => by
    simp only [setsL] at h
    simp only [fillL]
    split at h
    · rename_i off hp
      rw [hp]
      cases hb : (oneC v && Nat.blt off cs.length) with
      | false => rw [hb] at h; cases h
      | true =>
        rw [hb] at h
        simp only [Bool.and_eq_true] at hb
        have hlt : off < cs.length := by have := hb.2; simp [Nat.blt] at this; omega
        have e := oneC_cells hb.1
        rw [e]
        show (if [v].length = 1 ∧ off + 1 ≤ cs.length then fillL place (cs.take off ++ [v] ++ cs.drop (off + 1)) t else none) = some r
        rw [if_pos ⟨rfl, by omega⟩]
        have e2 : cs.take off ++ [v] ++ cs.drop (off + 1) = cs.set off v := by
          rw [List.set_eq_take_append_cons_drop, if_pos hlt]
          simp
        rw [e2]
        refine setsL_fill (cs := cs.set off v) ?_
        rw [List.length_set]
        exact h
    · cases h

section
variable {P : Program} {I : InlP} {nb : Nat} {Q : Ex → St → Prop} {ops : Array Oper} {K : St → Prop} {r : List Oper} {ts : Slots} {m : Mem} {t : Nat} {ty : TypeId} {pos : String} {af : Array Edge} {d : Bool} {i : Nat} {acc : List (Nat × List Nat × List Nat)}
theorem GL.buildSliceM (hI : InlM I) {e et : TypeId} {n sz : Nat} {ps : Array (Nat × Operand)} {z : List LV} {ps' : List (Nat × List LV)} {T : List Nat} {m' : Mem} {es : List (List LV)} (ht : sliceE P e = some et) (hz : zeroL P et = some z) (hzl : z.length = sz) (hs : szT P et = some sz) (hn : 0 < sz) (hb : n * sz ≤ 16777216) (hn0 : 0 < n)
    (hp : FrzP m sz n (evalO ts) ps.toList ps' T) (hm : effM m (markE m T) = m') (he : fillE (List.replicate n (z.map pureC)) ps' = es) (k : ∀ g, GL P I nb ops K false r (i + 1) acc ⟨updS ts t (.own (nb + 64 * t) g 0 n none), updM m' (nb + 64 * t) ⟨g, false, .slc, sz, es⟩⟩) :
    GL P I nb ops K false (⟨some t, .buildSlice e n ps, ty, pos, af, none⟩ :: r) i acc ⟨ts, m⟩ := by
  subst he hzl hm
  simp only [GL, wantedL]
  refine .op (o := ⟨some t, .buildSlice e n ps, ty, pos, af, none⟩) (.buildSlice ht hz hs hn hb hn0 hp) ?_
  rw [effM_append]
  exact k _
theorem GL.callM0 (hI : InlM I) {g : Operand} {as : Array Operand} {tys : Array TypeId} {f : FuncId} {caps args : List LV} {T : List Nat} {res : LV} {m' : Mem} (hg : evalO ts g = .fn f caps) (hf : Frz m (.agg (as.toList.map (evalO ts) ++ caps)) (.agg args) T) (hc : CallsV P f args res)
    (hT : effM m (markE m T) = m') (ht : topI res = true) (hr : ∀ m, impT m (nb + 64 * t) res = (res, [])) (k : GL P I nb ops K false r (i + 1) acc ⟨updS ts t res, m'⟩) :
    GL P I nb ops K false (⟨some t, .call { callee := .value g, args := as, argTypes := tys }, ty, pos, af, none⟩ :: r) i acc ⟨ts, m⟩ := by
  simp only [GL, wantedL]
  refine .call (o := ⟨some t, .call { callee := .value g, args := as, argTypes := tys }, ty, pos, af, none⟩) rfl hg hf hc fun r' hr' => ?_
  subst hr'
  refine ⟨ht, ?_⟩
  simp only [nameO, Option.getD_some, hT, hr, effM]
  exact k
theorem GL.buildS (hI : InlM I) {e : TypeId} {ps : Array (Nat × Operand)} {vs : List (Nat × LV)} {z cs : List LV} {n : Nat} (hz : zeroL P e = some z) (hn : z.length = n) (hs : sizesOk P e = true) (hv : EvS ts ps.toList vs) (hp : (vs.all fun p => (cellsL p.2).all oneC) = true) (h : setsL (placeS P e) n z vs = some cs)
    (k : GL P I nb ops K d r (i + 1) ((i, [], []) :: acc) ⟨updS ts t (.agg cs), m⟩) : GL P I nb ops K d (⟨some t, .build e ps, ty, pos, af, none⟩ :: r) i acc ⟨ts, m⟩ := by
  subst hn
  refine .build hI ?_ (by rw [hv.all]; exact hp) k
  rw [hv.map, buildL, hz]
  simp only [hs, if_true, setsL_fill h, Option.map_some]
end
end Go.Proofs.Ytpepcfombibpeaa.Mv
