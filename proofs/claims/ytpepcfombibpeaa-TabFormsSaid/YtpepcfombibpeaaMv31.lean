/- Calls that hand over a slice whole; appends of nothing, and of what is only read. -/
import Derived.Test.YtpepcfombibpeaaMv30
set_option linter.unusedVariables false
set_option linter.unusedSimpArgs false
namespace Go.Proofs.Ytpepcfombibpeaa.Mv
section
variable {P : Program} {I : InlP} {nb : Nat} {Q : Ex → St → Prop} {ops : Array Oper} {K : St → Prop} {r : List Oper} {ts : Slots} {m : Mem} {t : Nat} {ty : TypeId} {pos : String} {af : Array Edge} {d : Bool} {i : Nat} {acc : List (Nat × List Nat × List Nat)}
theorem GL.callSlo (hI : InlM I) {g : Operand} {as : Array Operand} {tys : Array TypeId} {f : FuncId} {caps args : List LV} {T : List Nat} {sz n : Nat} {es : List (List LV)} (hg : evalO ts g = .fn f caps) (hf : Frz m (.agg (as.toList.map (evalO ts) ++ caps)) (.agg args) T) (hc : CallsV P f args (.slo sz es))
    (hT : unmark m (markE m T) = []) (hn : es.length = n) (k : ∀ gg, GL P I nb ops K d r (i + 1) ((i, [nb + 64 * t], T ++ [nb + 64 * t]) :: acc) ⟨updS ts t (.own (nb + 64 * t) gg 0 n none), updM m (nb + 64 * t) ⟨gg, false, .slc, sz, es⟩⟩) :
    GL P I nb ops K d (⟨some t, .call { callee := .value g, args := as, argTypes := tys }, ty, pos, af, none⟩ :: r) i acc ⟨ts, m⟩ := by
  subst hn
  have hm : effM m (markE m T) = m := by rw [effM_unmarkE T fun n x hx => .inl hx, hT]; rfl
  cases d with
  | false =>
    simp only [GL, wantedL]
    refine .call (o := ⟨some t, .call { callee := .value g, args := as, argTypes := tys }, ty, pos, af, none⟩) rfl hg hf hc fun r' hr' => ?_
    subst hr'
    refine ⟨rfl, ?_⟩
    simp only [nameO, Option.getD_some, hm]
    exact GL.accI hI (k _)
  | true =>
    simp only [GL, wantedL]
    refine ⟨_, .call (o := ⟨some t, .call { callee := .value g, args := as, argTypes := tys }, ty, pos, af, none⟩) rfl hg hf hc rfl, ?_⟩
    simp only [nameO, Option.getD_some, hm, hT]
    exact k _
/-- As 'call0', and more is known to be read only behind it; 'W': what was marked anew. -/
theorem GL.callMW (hI : InlM I) {g : Operand} {as : Array Operand} {tys : Array TypeId} {f : FuncId} {caps args : List LV} {T W : List Nat} {res : LV} {e : List (Nat × Box)} (hg : evalO ts g = .fn f caps) (hf : Frz m (.agg (as.toList.map (evalO ts) ++ caps)) (.agg args) T) (hc : CallsV P f args res)
    (he : unmark m (markE m T) = e) (hW : Wn e = W) (ht : topI res = true) (hr : ∀ m, impT m (nb + 64 * t) res = (res, [])) (k : GL P I nb ops K d r (i + 1) ((i, W, T) :: acc) ⟨updS ts t res, effM m e⟩) :
    GL P I nb ops K d (⟨some t, .call { callee := .value g, args := as, argTypes := tys }, ty, pos, af, none⟩ :: r) i acc ⟨ts, m⟩ := by
  have hm : effM m (markE m T) = effM m e := by rw [effM_unmarkE T fun n x hx => .inl hx, he]
  cases d with
  | false =>
    simp only [GL, wantedL]
    refine .call (o := ⟨some t, .call { callee := .value g, args := as, argTypes := tys }, ty, pos, af, none⟩) rfl hg hf hc fun r' hr' => ?_
    subst hr'
    refine ⟨ht, ?_⟩
    simp only [nameO, Option.getD_some, hm, hr]
    exact GL.accI hI k
  | true =>
    simp only [GL, wantedL]
    refine ⟨_, .call (o := ⟨some t, .call { callee := .value g, args := as, argTypes := tys }, ty, pos, af, none⟩) rfl hg hf hc ht, ?_⟩
    simp only [nameO, Option.getD_some, hr, he, List.append_nil, Wn, List.map_nil]
    rw [show e.map (·.1) = W from hW]
    exact k
theorem GL.appendNil (hI : InlM I) {x y : Operand} {e u et : TypeId} (ht : sliceE P e = some et) (hu : u = e) (hs : (szT P et).isSome = true) (hx : evalO ts x = .nils) (hy : evalO ts y = .sl [])
    (k : GL P I nb ops K d r (i + 1) ((i, [], []) :: acc) ⟨updS ts t .nils, m⟩) : GL P I nb ops K d (⟨some t, .call { callee := .builtin .append, args := #[x, y], argTypes := #[e, u] }, ty, pos, af, none⟩ :: r) i acc ⟨ts, m⟩ := by
  have := GL.stepP (P := P) (I := I) (nb := nb) (ops := ops) (K := K) (d := d) (r := r) (ts := ts) (m := m) (t := t) (ty := ty) (pos := pos) (af := af) (i := i) (acc := acc) hI
    (.append0 (x := x) (y := y) (t := e) (u := u) (e := et) (n := 0) (R := []) (S := []) (by rw [hx]; rfl) (by simp [hx]) ht hu hs (by rw [hy]; rfl) (by simp [hy]) (by rw [hx]; exact .nils) (by rw [hy]; exact .sl))
  rw [hx] at this
  exact this k
theorem GL.appendSl (hI : InlM I) {α : Type} {f : α → List LV} {l : List α} {x y : Operand} {e u et : TypeId} {z : List LV} {sz : Nat} (hz : zeroL P et = some z) (hzl : z.length = sz) (hs : szT P et = some sz) (ht : sliceE P e = some et) (hu : u = e) (h0 : 0 < sz) (hb : P.bytesOf et ≤ 4096)
    (hx : evalO ts x = .nils) (hy : evalO ts y = .sl (em f l)) (hf : ∀ a, (f a).length = sz) (h1 : ∀ a, (f a).all oneC = true) (hpos : 0 < l.length) (hle : l.length ≤ 4294967296)
    (k : ∀ g, GL P I nb ops K d r (i + 1) ((i, [nb + 64 * t], [nb + 64 * t]) :: acc) ⟨updS ts t (.own (nb + 64 * t) g 0 l.length none), updM m (nb + 64 * t) ⟨g, false, .slc, sz, em f l⟩⟩) :
    GL P I nb ops K d (⟨some t, .call { callee := .builtin .append, args := #[x, y], argTypes := #[e, u] }, ty, pos, af, none⟩ :: r) i acc ⟨ts, m⟩ :=
  .appendN hI ht hu hz hzl hs h0 hb hx (by rw [hy]; exact .sl (em_sz hf l)) (em_len f l) hpos (em_one h1 l) hle k
end
end Go.Proofs.Ytpepcfombibpeaa.Mv
