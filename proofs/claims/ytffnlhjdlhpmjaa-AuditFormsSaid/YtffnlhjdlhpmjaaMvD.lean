/- More rules: maps, lent slices, sorting; edits, in plain Lean. -/
import Derived.Test.YtffnlhjdlhpmjaaMvC
import Derived.Sort.Grow
import Derived.Sort.Row
import Derived.MapKept
/- Steps: maps that are ranged over, slices against nil. -/
set_option linter.unusedVariables false
set_option linter.unusedSimpArgs false
namespace Go.Proofs.Ytffnlhjdlhpmjaa.Mv
/-- The end of a slice of this call's own. -/
theorem Frz.tail {m : Mem} {b g k n : Nat} {cap : Option Nat} {x : Box} {α : Type} {f : α → List LV} {l : List α} (hm : m b = Option.some x) (hg : x.gen = g) (hk : x.kind = .slc) (he : x.es = em f l) (hn : k + n = l.length) : Frz m (.own b g k n cap) (.sl (em f (l.drop k))) [b] := by
  have hl : x.es.length = l.length := by rw [he, em_len]
  have := Frz.own (m := m) (b := b) (g := g) (off := k) (len := n) (cap := cap) hm hg hk (by omega)
  rw [he, List.take_of_length_le (by rw [List.length_drop, em_len]; omega)] at this
  rwa [show em f (l.drop k) = (em f l).drop k by simp [em]]
section
variable {P : Program} {I : InlP} {nb : Nat} {Q : Ex → St → Prop} {ops : Array Oper} {K : St → Prop} {r : List Oper} {ts : Slots} {m : Mem} {t : Nat} {ty : TypeId} {pos : String} {af : Array Edge} {d : Bool} {i : Nat} {acc : List (Nat × List Nat × List Nat)}
theorem GL.any (hI : InlM I) {op : Op} {R : LV → List (Nat × Box) → Prop} (h : OpN P (evalO ts) m op R) (k : ∀ v eff, R v eff → GL P I nb ops K false r (i + 1) acc ⟨updS ts t v, effM m eff⟩) : GL P I nb ops K false (⟨some t, op, ty, pos, af, none⟩ :: r) i acc ⟨ts, m⟩ := by
  simp only [GL, wantedL]
  exact .any (o := ⟨some t, op, ty, pos, af, none⟩) h fun v eff hr => k v eff hr
/-- A slice that is only read, against nil: empty ones may be it. -/
theorem GL.nilSl (hI : InlM I) {st e u : TypeId} {x y : Operand} {es : List (List LV)} (ht : P.underlying st = some (.slice e)) (hx : evalO ts x = .sl es) (hy : evalO ts y = .nils)
    (k : ∀ b : Bool, (b = true → es = []) → GL P I nb ops K false r (i + 1) acc ⟨updS ts t (.bool b), m⟩) : GL P I nb ops K false (⟨some t, .binOp .eql st x y u, ty, pos, af, none⟩ :: r) i acc ⟨ts, m⟩ := by
  refine .any hI (.nilEq ht hx hy) fun v eff hr => ?_
  obtain ⟨rfl, b, rfl, hb⟩ := hr
  exact k b hb
theorem GL.nilSlN (hI : InlM I) {st e u : TypeId} {x y : Operand} {es : List (List LV)} (ht : P.underlying st = some (.slice e)) (hx : evalO ts x = .sl es) (hy : evalO ts y = .nils)
    (k : ∀ b : Bool, (b = false → es = []) → GL P I nb ops K false r (i + 1) acc ⟨updS ts t (.bool b), m⟩) : GL P I nb ops K false (⟨some t, .binOp .neq st x y u, ty, pos, af, none⟩ :: r) i acc ⟨ts, m⟩ := by
  refine .any hI (.nilNe ht hx hy) fun v eff hr => ?_
  obtain ⟨rfl, b, rfl, hb⟩ := hr
  exact k b hb
theorem GL.buildSlice00 (hI : InlM I) {st e : TypeId} {n : Nat} (ht : sliceE P st = some e) (hs : szT P e = some n) (hn : 0 < n) (k : ∀ g, GL P I nb ops K d r (i + 1) ((i, [nb + 64 * t], [nb + 64 * t]) :: acc) ⟨updS ts t (.own (nb + 64 * t) g 0 0 none), updM m (nb + 64 * t) ⟨g, false, .slc, n, []⟩⟩) :
    GL P I nb ops K d (⟨some t, .buildSlice st 0 #[], ty, pos, af, none⟩ :: r) i acc ⟨ts, m⟩ := .step hI (.buildSlice00 ht hs hn) (by simp) (k _)
/-- The end of a slice of this call's own, cut off. -/
theorem GL.sliceFromO (hI : InlM I) {st e : TypeId} {x lo : Operand} {kk : IntKind} {n : Int} {b g off len j len' : Nat} {y : Box} {sz : Nat} (ht : sliceE P st = some e) (hs : szT P e = some sz) (hx : evalO ts x = .own b g off len none) (hm : m b = some y) (hg : y.gen = g) (hk : y.kind = .slc) (hz : y.sz = sz) (hl : evalO ts lo = .int kk n)
    (h0 : 0 ≤ n) (h1 : n ≤ (len : Int)) (h2 : off + len ≤ y.es.length) (hj : off + n.toNat = j) (hl' : len - n.toNat = len') (k : GL P I nb ops K d r (i + 1) ((i, [], [b]) :: acc) ⟨updS ts t (.own b g j len' none), m⟩) : GL P I nb ops K d (⟨some t, .slice st x (some lo) none none, ty, pos, af, none⟩ :: r) i acc ⟨ts, m⟩ := by
  subst hj hl'
  exact .stepP hI (.slice (l := n.toNat) (h := len) hx hm hg hk ht (hz ▸ hs) (by simp only [bndL]; rw [hl]; simp only [h0, if_true]) rfl (by omega) h2 (by simp)) k
/-- A map that is ranged over: it is only read from here on. -/
theorem GL.range (hI : InlM I) {mt kt et : TypeId} {x : Operand} {es : List (List LV)} {T : List Nat} {m' : Mem} (ht : P.underlying mt = some (.map kt et)) (hx : Frz m (evalO ts x) (.fmap es) T) (hm : effM m (markE m T) = m')
    (k : ∀ g, GL P I nb ops K false r (i + 1) acc ⟨updS ts t (.mref (nb + 64 * t) g), updM m' (nb + 64 * t) ⟨g, false, .mp, 3, [] :: es⟩⟩) : GL P I nb ops K false (⟨some t, .range mt x, ty, pos, af, none⟩ :: r) i acc ⟨ts, m⟩ := by
  subst hm
  simp only [GL, wantedL]
  refine .op (o := ⟨some t, .range mt x, ty, pos, af, none⟩) (.range ht hx) ?_
  rw [effM_append]
  exact k _
theorem GL.next (hI : InlM I) {x : Operand} {b g : Nat} {y : Box} {h : List LV} {es : List (List LV)} (hx : evalO ts x = .mref b g) (hm : m b = some y) (hg : y.gen = g) (hf : y.frz = false) (hk : y.kind = .mp) (hn : y.sz = 3) (he : y.es = h :: es)
    (k0 : es = [] → GL P I nb ops K false r (i + 1) acc ⟨updS ts t (.tup [.bool false]), m⟩)
    (k1 : ∀ (j : Nat) (k v : LV), es[j]? = some [k, v] → GL P I nb ops K false r (i + 1) acc ⟨updS ts t (.tup [.bool true, k, v]), updM m b ⟨g, false, .mp, 3, [k, v] :: es.eraseIdx j⟩⟩) :
    GL P I nb ops K false (⟨some t, .next x false, ty, pos, af, none⟩ :: r) i acc ⟨ts, m⟩ := by
  refine .any hI (.next hx hm hg hf hk hn he) fun v eff hr => ?_
  rcases hr with ⟨h0, rfl, rfl⟩ | ⟨j, k, w, h1, rfl, rfl⟩
  · exact k0 h0
  · have := k1 j k w h1
    simp only [effM, hg, hf, hk, hn]
    exact this
theorem GL.entry (hI : InlM I) {x : Operand} {b g : Nat} {y : Box} {k v : LV} {es : List (List LV)} (hx : evalO ts x = .mref b g) (hm : m b = some y) (hg : y.gen = g) (hk : y.kind = .mp) (hn : y.sz = 3) (he : y.es = [k, v] :: es)
    (kk : GL P I nb ops K d r (i + 1) ((i, [], [b]) :: acc) ⟨updS ts t (.tup [k, v]), m⟩) : GL P I nb ops K d (⟨some t, .entry x, ty, pos, af, none⟩ :: r) i acc ⟨ts, m⟩ := .stepP hI (.entry hx hm hg hk hn he) kk
end
end Go.Proofs.Ytffnlhjdlhpmjaa.Mv

/- Steps: calls that are lent memory; slices that are cut. -/
set_option linter.unusedVariables false
set_option linter.unusedSimpArgs false
namespace Go.Proofs.Ytffnlhjdlhpmjaa.Mv
/-- A slice's beginning, alone: what lies behind it is forgotten, and the older headers too. -/
theorem Weak.cutSl {ts : Slots} {m : Mem} {j b g i : Nat} {x : Box} (hj : ts j = .own b g 0 i none) (hm : m b = some x) (hg : x.gen = g) (hf : x.frz = false) (hk : x.kind = .slc) (hi : i ≤ x.es.length) :
    Weak ⟨ts, m⟩ ⟨updS ts j (.own b (g + 1) 0 i none), updM m b ⟨g + 1, false, .slc, x.sz, x.es.take i⟩⟩ := by
  intro X a w F ρ h
  have hv := h.slots j
  change RelL w F ρ m _ (ts j) at hv
  rw [hj] at hv
  obtain ⟨-, -, hh⟩ := hv.toOwn hm hg
  have hbx := BoxOK.cells (by rw [hk]; simp) (h.boxes b x hm)
  have h1 : Inv X ⟨ts, updM m b ⟨g + 1, false, .slc, x.sz, x.es.take i⟩⟩ a w F ρ := by
    refine h.write (n := b) (x' := ⟨g + 1, false, .slc, x.sz, x.es.take i⟩) rfl rfl rfl (Nat.le_refl _) (fun _ _ _ => rfl) (fun _ _ => rfl) rfl (fun y hy => ?_) (fun l hl => ⟨(h.place b x l hm hl).1, .inr ⟨x, l, hm, hf, hl, rfl⟩⟩) fun hcm _ => ?_
    · change m b = some y at hy
      rw [hm] at hy
      injection hy with hy
      subst hy
      exact .inr (by rw [hg]; exact Nat.lt_succ_self g)
    · refine BoxOK.of_cells (by simp) ?_
      cases hr : ρ b with
      | none =>
        rw [hr] at hbx
        have : x.es = [] := hbx
        show x.es.take i = []
        rw [this]
        simp
      | some l =>
        rw [hr] at hbx
        obtain ⟨cs, t, g1, g2, g3, g4, g5⟩ := hbx
        rw [hk] at g5
        refine ⟨cs, t, g1, g2, Nat.le_trans (by simp; omega) g3, fun e he => g4 e (List.mem_of_mem_take he), fun k e c q he hq => ?_⟩
        have he' : x.es[k]? = some e := by
          rw [List.getElem?_take] at he
          split at he
          · exact he
          · cases he
        exact g5 k e c q he' hq
  refine ⟨F, ρ, { h1 with slots := fun k => ?_ }⟩
  by_cases hk' : j = k
  · subst hk'
    show RelL w F ρ _ _ (updS ts j _ j)
    rw [updS_same]
    refine .own (x := ⟨g + 1, false, .slc, x.sz, x.es.take i⟩) ?_ (updM_same _ _ _) (Nat.le_refl _) fun _ => ⟨rfl, by simp; omega, ?_⟩
    · cases hr : ρ b with
      | none => rw [hr] at hh; obtain ⟨a0, hh⟩ := hh; rw [hh]; rfl
      | some lc => rw [hr] at hh; obtain ⟨ao, cap', hv2, -⟩ := hh; rw [hv2]; rfl
    · cases hr : ρ b with
      | none => rw [hr] at hh; exact hh
      | some lc => rw [hr] at hh; exact hh
  · show RelL w F ρ _ _ (updS ts j _ k)
    rw [updS_ne _ _ hk']
    exact h1.slots k
theorem Frz.cons0 {m : Mem} {l : LV} {cs : List LV} (h : Frz m l l []) (hc : cs.all pureL = true) : Frz m (.agg (l :: cs)) (.agg (l :: cs)) [] := Frz.aggc (S := []) (T := []) h (Frz.pures hc)

section
variable {P : Program} {I : InlP} {nb : Nat} {Q : Ex → St → Prop} {ops : Array Oper} {K : St → Prop} {r : List Oper} {ts : Slots} {m : Mem} {t : Nat} {ty : TypeId} {pos : String} {af : Array Edge} {d : Bool} {i : Nat} {acc : List (Nat × List Nat × List Nat)}
theorem GL.indexAr (hI : InlM I) {xt e : TypeId} {x ix : Operand} {kk : IntKind} {n : Int} {len j : Nat} {cs : List LV} {v : LV} (ht : arrayE P xt = some (len, e)) (hs : szT P e = some 1) (ha : isAggT P e = some false) (hx : evalO ts x = .agg cs) (hi : evalO ts ix = .int kk n) (h0 : 0 ≤ n) (h1 : n < (len : Int)) (hj : n.toNat = j) (hv : cs[j]? = some v)
    (k : GL P I nb ops K d r (i + 1) ((i, [], []) :: acc) ⟨updS ts t v, m⟩) : GL P I nb ops K d (⟨some t, .index xt x ix, ty, pos, af, none⟩ :: r) i acc ⟨ts, m⟩ := .stepP hI (.indexAr hx hi ht hs ha h0 h1 (hj ▸ hv)) k
theorem GL.clear (hI : InlM I) {x : Operand} {st e : TypeId} {b g off len : Nat} {cap : Option Nat} {y : Box} {z : List LV} {es' : List (List LV)} (ht : sliceE P st = some e) (hz : zeroL P e = some z) (hzl : 0 < z.length) (hone : z.all oneC = true) (hx : evalO ts x = .own b g off len cap) (hm : m b = some y) (hg : y.gen = g) (hf : y.frz = false) (hk : y.kind = .slc)
    (hzs : z.length = y.sz) (hl : off + len ≤ y.es.length) (he : y.es.take off ++ List.replicate len (z.map pureC) ++ y.es.drop (off + len) = es') (k : GL P I nb ops K d r (i + 1) ((i, [b], [b]) :: acc) ⟨ts, updM m b ⟨g, false, .slc, y.sz, es'⟩⟩) :
    GL P I nb ops K d (⟨none, .call { callee := .builtin .clear, args := #[x], argTypes := #[st] }, ty, pos, af, none⟩ :: r) i acc ⟨ts, m⟩ := by
  subst he
  have hr := OpR.clear (P := P) (d := nb + 64 * 4000) (ρ := evalO ts) (m := m) hx hm hg hf hk ht hz hzs hzl hone hl
  cases d with
  | false =>
    simp only [GL, wantedL]
    refine .op (o := ⟨none, .call { callee := .builtin .clear, args := #[x], argTypes := #[st] }, ty, pos, af, none⟩) hr ?_
    simp only [effM, hg, hf, hk]
    exact GL.accI hI k
  | true =>
    simp only [GL, wantedL]
    refine ⟨_, .op (o := ⟨none, .call { callee := .builtin .clear, args := #[x], argTypes := #[st] }, ty, pos, af, none⟩) hr, ?_⟩
    rw [unmark_new (by simp [hf])]
    simp only [effM, hg, hf, hk]
    exact k
/-- A call that is handed memory for good. -/
theorem GL.lend (hI : InlM I) {g : Operand} {as : Array Operand} {tys : Array TypeId} {f : FuncId} {caps args : List LV} {T M : List Nat} {dst : Option Nat} {R : LV → LV → Prop} {m1 m2 : Mem} (hg : evalO ts g = .fn f caps) (he : Exp m (.agg (as.toList.map (evalO ts) ++ caps)) (.agg args) T M)
    (hM : M.Nodup) (hMT : ∀ n ∈ M, n ∉ T) (hc : CallsM P f args none R) (h1 : effM m (markE m T) = m1) (h2 : effM m1 (lendE m1 [] M) = m2)
    (k : ∀ res q, R res q → topI res = true ∧ GL P I nb ops K false r (i + 1) acc ⟨putS ts dst (impT m2 (nb + 64 * dst.getD 4000) res).1, effM m2 (impT m2 (nb + 64 * dst.getD 4000) res).2⟩) :
    GL P I nb ops K false (⟨dst, .call { callee := .value g, args := as, argTypes := tys }, ty, pos, af, none⟩ :: r) i acc ⟨ts, m⟩ := by
  subst h2 h1
  simp only [GL, wantedL]
  exact .lend (o := ⟨dst, .call { callee := .value g, args := as, argTypes := tys }, ty, pos, af, none⟩) rfl hg he hM hMT hc fun res q hr => k res q hr
/-- A call that is lent memory; one argument is given back. -/
theorem GL.lend1 (hI : InlM I) {g : Operand} {as : Array Operand} {tys : Array TypeId} {f : FuncId} {caps args : List LV} {T M : List Nat} {dst : Option Nat} {R : LV → LV → Prop} {j : Nat} {u : LV} {m1 : Mem} (hg : evalO ts g = .fn f caps) (he : Exp m (.agg (as.toList.map (evalO ts) ++ caps)) (.agg args) T M)
    (hM : M.Nodup) (hMT : ∀ n ∈ M, n ∉ T) (hc : CallsM P f args (some j) R) (hu : (as.toList.map (evalO ts) ++ caps)[j]? = some u) (h1 : effM m (markE m T) = m1)
    (k : ∀ res q, R res q → topI res = true ∧ ∃ b x, Back1 m1 u q b x ∧ b ∈ M ∧ b < 1000000000 ∧ ∃ m2 m3, effM m1 (lendE m1 [(b, x)] M) = m2 ∧ effM m2 (fill1 m2 (nb + 64 * dst.getD 4000) b x q) = m3 ∧
      GL P I nb ops K false r (i + 1) acc ⟨putS ts dst (impT m3 (nb + 64 * dst.getD 4000) res).1, effM m3 (impT m3 (nb + 64 * dst.getD 4000) res).2⟩) :
    GL P I nb ops K false (⟨dst, .call { callee := .value g, args := as, argTypes := tys }, ty, pos, af, none⟩ :: r) i acc ⟨ts, m⟩ := by
  subst h1
  simp only [GL, wantedL]
  refine .lend1 (o := ⟨dst, .call { callee := .value g, args := as, argTypes := tys }, ty, pos, af, none⟩) rfl hg he hM hMT hc hu fun res q hr => ?_
  obtain ⟨h2, b, x, h3, h4, h5, m2, m3, e2, e3, h6⟩ := k res q hr
  refine ⟨b, x, h2, h3, h4, h5, fun n1 n2 q1 q2 => ?_⟩
  have z1 : m2 = n1 := e2.symm.trans q1
  subst z1
  have z2 : m3 = n2 := e3.symm.trans q2
  subst z2
  exact h6
/-- A slice of this call's own is sorted, or the like: the slice is given back. -/
theorem GL.lendS (hI : InlM I) {g : Operand} {as : Array Operand} {tys : Array TypeId} {f : FuncId} {caps args : List LV} {T : List Nat} {dst : Option Nat} {b gb n sz : Nat} {es es' : List (List LV)} {x : Box} {rest : List LV} (hg : evalO ts g = .fn f caps) (hu : as.toList.map (evalO ts) ++ caps = .own b gb 0 n none :: rest)
    (hm : m b = some x) (hgb : x.gen = gb) (hf : x.frz = false) (hk : x.kind = .slc) (hes : x.es = es) (hn : n = es.length) (h0 : 0 < n) (hsz : x.sz = sz) (hlen : es'.length = es.length) (hfr : Frz m (.agg rest) (.agg args) []) (hb : b < 1000000000)
    (hc : CallsM P f (.slo sz es :: args) (some 0) fun res q => res = .tup [] ∧ q = .slo sz es') (k : GL P I nb ops K false r (i + 1) acc ⟨putS ts dst (.tup []), updM m b ⟨gb, false, .slc, sz, es'⟩⟩) :
    GL P I nb ops K false (⟨dst, .call { callee := .value g, args := as, argTypes := tys }, ty, pos, af, none⟩ :: r) i acc ⟨ts, m⟩ := by
  subst hes hn hsz
  have he : Exp m (.agg (as.toList.map (evalO ts) ++ caps)) (.agg (.slo x.sz x.es :: args)) ([] ++ []) ([b] ++ []) := by
    rw [hu]
    have := Exp.slo (m := m) (b := b) (g := gb) (off := 0) (len := x.es.length) hm hgb hf hk (by omega)
    rw [List.drop_zero] at this
    exact .aggc this (.frz hfr)
  refine GL.lend1 hI (u := .own b gb 0 x.es.length none) hg he (by simp) (by simp) hc (by rw [hu]; rfl) rfl fun res q hr => ?_
  obtain ⟨rfl, rfl⟩ := hr
  refine ⟨rfl, b, ⟨gb, false, .slc, x.sz, es'⟩, .slc hm hgb hk rfl h0 rfl hlen, by simp, hb, _, _, rfl, rfl, ?_⟩
  have e : effM (effM m (markE m ([] ++ []))) (lendE (effM m (markE m ([] ++ []))) [(b, ⟨gb, false, .slc, x.sz, es'⟩)] ([b] ++ [])) = updM m b ⟨gb, false, .slc, x.sz, es'⟩ := by
    simp [lendE, findB, markE, effM]
  rw [e]
  exact k
/-- A slice of this call's own is handed over; another one, or what is left of it, comes back. -/
theorem GL.lendT (hI : InlM I) {g : Operand} {as : Array Operand} {tys : Array TypeId} {f : FuncId} {caps args : List LV} {b gb n sz n' : Nat} {es es' : List (List LV)} {x : Box} {rest : List LV} (hg : evalO ts g = .fn f caps) (hu : as.toList.map (evalO ts) ++ caps = .own b gb 0 n none :: rest)
    (hm : m b = some x) (hgb : x.gen = gb) (hf : x.frz = false) (hk : x.kind = .slc) (hes : x.es = es) (hn : n = es.length) (hsz : x.sz = sz) (hfr : Frz m (.agg rest) (.agg args) [])
    (hc : CallsM P f (.slo sz es :: args) none fun res q => res = .slo sz es') (hn' : es'.length = n')
    (k : ∀ y g2, GL P I nb ops K false r (i + 1) acc ⟨updS ts t (.own (nb + 64 * t) g2 0 n' none), updM (updM m b y) (nb + 64 * t) ⟨g2, false, .slc, sz, es'⟩⟩) :
    GL P I nb ops K false (⟨some t, .call { callee := .value g, args := as, argTypes := tys }, ty, pos, af, none⟩ :: r) i acc ⟨ts, m⟩ := by
  subst hes hn hsz hn'
  have he : Exp m (.agg (as.toList.map (evalO ts) ++ caps)) (.agg (.slo x.sz x.es :: args)) ([] ++ []) ([b] ++ []) := by
    rw [hu]
    have := Exp.slo (m := m) (b := b) (g := gb) (off := 0) (len := x.es.length) hm hgb hf hk (by omega)
    rw [List.drop_zero] at this
    exact .aggc this (.frz hfr)
  refine GL.lend hI hg he (by simp) (by simp) hc rfl rfl fun res q hr => ?_
  subst hr
  refine ⟨rfl, ?_⟩
  simp only [impT, impV, impC, Option.getD_some, putS, effM]
  exact k _ _
end
end Go.Proofs.Ytffnlhjdlhpmjaa.Mv

/- The library's sort of integers, as a contract of a function that is lent a slice. -/
set_option linter.unusedVariables false
set_option linter.unusedSimpArgs false
namespace Go.Proofs.Ytffnlhjdlhpmjaa.Mv
open Go.Sort
theorem RelI.sole {w : World} {F : Nat → Prop} {vs : Array Value} {l : LV} {O : List Nat} (h : RelI w F (.agg vs) (.agg [l]) O) : ∃ v, vs = #[v] ∧ RelI w F v l O := by
  cases h with
  | frz h =>
    cases h with
    | agg hn h =>
      have h1 : vs.size = 1 := hn
      have e : vs = #[vs[0]'(by omega)] := by
        apply Array.ext
        · simp [h1]
        · intro i q1 q2
          have : i = 0 := by simp at q2; exact q2
          subst this
          rfl
      refine ⟨_, e, .frz (h 0 _ _ (Array.getElem?_eq_getElem (by omega)) rfl)⟩
  | aggc h hs =>
    cases hs with
    | frz h2 =>
      cases h2 with
      | agg hn _ =>
        rename_i vs' _ _
        have : vs' = [] := List.eq_nil_of_length_eq_zero (by simpa using hn)
        subst this
        exact ⟨_, rfl, by rw [List.append_nil]; exact h⟩
    | aggn => exact ⟨_, rfl, by rw [List.append_nil]; exact h⟩
theorem heap_put {w : World} {n blk off : Nat} {d : Array Int} {os : Array Obj} {cs : Array Value} {t : TypeId} {z : Nat × Nat} (hb : w.heap[blk]? = some (.cells cs t z)) :
    (grow (putRow (Value.int .i64) (Sort.ahead w n) blk off d) os).heap[blk]? = some (.cells (putCells (Value.int .i64) off d cs) t z) := by
  obtain ⟨hlt, he⟩ := Array.getElem?_eq_some_iff.1 hb
  show ((w.heap.modify blk (onCells (putCells (Value.int .i64) off d))) ++ os)[blk]? = _
  rw [Array.getElem?_append_left (by simpa using hlt), Array.getElem?_modify]
  simp [hb, onCells]
theorem heap_put_ne {w : World} {n blk off : Nat} {d : Array Int} {os : Array Obj} {k : Nat} (hk : k < w.heap.size) (hn : k ≠ blk) : (grow (putRow (Value.int .i64) (Sort.ahead w n) blk off d) os).heap[k]? = w.heap[k]? := by
  show ((w.heap.modify blk (onCells (putCells (Value.int .i64) off d))) ++ os)[k]? = _
  rw [Array.getElem?_append_left (by simpa using hk), Array.getElem?_modify, if_neg (Ne.symm hn)]
def sorted (zs : List Int) : List Int := zs.mergeSort fun x y => decide (x ≤ y)
theorem sorted_len (zs : List Int) : (sorted zs).length = zs.length := List.length_mergeSort _
theorem sortM {P : Program} {f : FuncId} (hok : FuncOK P f)
    (h1 : ∀ (blk off cap : Nat) (zs : List Int) (w : World), Holds (Value.int .i64) w blk off zs.toArray → blk < w.heap.size → zs.length < 4611686018427387904 →
      Calls P f #[.slice (some ⟨blk, off, none⟩) zs.length cap] w fun e w' => e = .returned (.tuple #[]) ∧ ∃ n os, w' = grow (putRow (Value.int .i64) (Sort.ahead w n) blk off (zs.mergeSort fun x y => decide (x ≤ y)).toArray) os)
    (h0 : ∀ (p : Option Addr) (cap : Nat) (w : World), Calls P f #[.slice p 0 cap] w fun e w' => e = .returned (.tuple #[]) ∧ w' = w)
    (zs : List Int) (hz : zs.length < 4611686018427387904) : CallsM P f [.slo 1 (em (fun n => [.int .i64 n]) zs)] (some 0) fun res q => res = .tup [] ∧ q = .slo 1 (em (fun n => [.int .i64 n]) (sorted zs)) := by
  refine ⟨hok, fun w F vs O hrel hnd hlt hO => ?_⟩
  obtain ⟨v, rfl, hv⟩ := hrel.sole
  have nil : ∀ (p : Option Addr) (cap : Nat), v = .slice p 0 cap → zs = [] → RelI w F v (.slo 1 []) O → Calls P f #[v] w fun e w' => ∃ v' res q F' O1 O2, e = .returned v' ∧ (res = .tup [] ∧ q = .slo 1 (em (fun n => [.int .i64 n]) (sorted zs))) ∧ Ext O w w' ∧ (∀ b, F b → F' b) ∧ (∀ b, F' b → F b ∨ b ∈ O ∨ w.heap.size ≤ b) ∧ (∀ b, F' b → b < w'.heap.size) ∧
      RelI w' F' v' res O1 ∧ (∀ k, some 0 = some k → RelI w' F' (#[v].getD k Go.undef) q O2) ∧ (some 0 = none → O2 = []) ∧ (O1 ++ O2).Nodup ∧ ∀ b ∈ O1 ++ O2, b < w'.heap.size ∧ ¬ F' b ∧ (b ∈ O ∨ w.heap.size ≤ b) := by
    intro p cap e1 e2 hr
    subst e1 e2
    refine (h0 p cap w).mono fun e w' he => ?_
    obtain ⟨rfl, rfl⟩ := he
    refine ⟨_, _, _, F, [], O, rfl, ⟨rfl, rfl⟩, Ext.refl _ _, fun b h => h, fun b h => .inl h, hlt, .frz (.tup rfl fun i v l hv => by simp at hv), fun k hk => ?_, by simp, by simpa using hnd, fun b hb => ?_⟩
    · cases hk
      have e3 : sorted [] = [] := List.eq_nil_of_length_eq_zero (by rw [sorted_len]; rfl)
      rw [e3]
      exact hr
    · exact ⟨(hO b (by simpa using hb)).1, (hO b (by simpa using hb)).2, .inl (by simpa using hb)⟩
  cases zs with
  | nil =>
    cases hv with
    | frz h => cases h
    | slo0 => exact nil _ _ rfl rfl .slo0
    | slo hl hc hb hf hsz hcell =>
      rename_i len cap cs t
      have : len = 0 := hl
      subst this
      exact nil _ _ rfl rfl (.slo hl hc hb hf hsz hcell)
  | cons z zs =>
    generalize hZ : z :: zs = Z at hv hz nil ⊢
    have hpos : 0 < Z.length := by rw [← hZ]; simp
    generalize hE : em (fun n => [LV.int .i64 n]) Z = E at hv
    have hEl : E.length = Z.length := by rw [← hE, em_len]
    cases hv with
    | frz h => cases h
    | slo0 => simp at hEl; omega
    | slo hl hc hb hf hsz hcell =>
      rename_i blk off len cap cs t
      have hlen : len = Z.length := by rw [hl, hEl]
      subst hE
      subst hlen
      obtain ⟨hblk, -⟩ := Array.getElem?_eq_some_iff.1 hb
      have hget : ∀ j, j < Z.length → cs[off + j]? = some (.int .i64 (Z.getD j default)) := fun j hj => by
        obtain ⟨v, h1, h2⟩ := hcell j _ 0 _ (em_get (f := fun n => [LV.int .i64 n]) hj) rfl
        cases h2
        simpa using h1
      have hH : Holds (Value.int .i64) w blk off Z.toArray := fun j hj => by
        have hj' : j < Z.length := by simpa using hj
        refine ⟨?_, ?_⟩
        · simp only [World.cell?, hb, Option.isSome_none]
          rw [if_neg (by simp), hget j hj']
          simp [hj', List.getD]
        · simp only [World.frozen?, hb]
          simp
      refine (h1 blk off cap Z w hH hblk hz).mono fun e w' he => ?_
      obtain ⟨rfl, n, os, rfl⟩ := he
      have hsz' : w.heap.size ≤ (grow (putRow (Value.int .i64) (Sort.ahead w n) blk off (Z.mergeSort fun x y => decide (x ≤ y)).toArray) os).heap.size := by
        show _ ≤ ((w.heap.modify blk _) ++ os).size
        simp
      refine ⟨_, _, _, F, [], [blk], rfl, ⟨rfl, rfl⟩, ⟨rfl, rfl, rfl, hsz', fun k hk hn => heap_put_ne hk (by simpa using hn)⟩, fun b h => h, fun b h => .inl h, fun b h => Nat.lt_of_lt_of_le (hlt b h) hsz', .frz (.tup rfl fun i v l hv => by simp at hv), fun k hk => ?_, by simp, by simp, fun b hb' => ?_⟩
      · cases hk
        refine .slo (by rw [em_len, sorted_len]) hc (heap_put hb) (by show off + cap * 1 ≤ (putCells (Value.int .i64) off _ cs).size; rw [putCells, Array.size_mapIdx]; exact hf) (em_sz (k := 1) (fun _ => rfl) (sorted Z)) fun i e c q he hq => ?_
        have hi : i < (sorted Z).length := by
          have := (List.getElem?_eq_some_iff.1 he).1
          rwa [em_len] at this
        rw [em_get hi] at he
        injection he with he
        subst he
        have hc0 : c = 0 := by
          have := (List.getElem?_eq_some_iff.1 hq).1
          simpa using this
        subst hc0
        injection hq with hq
        subst hq
        have hi' : i < Z.length := by rwa [sorted_len] at hi
        have hcs : off + i < cs.size := (Array.getElem?_eq_some_iff.1 (hget i hi')).1
        refine ⟨.int .i64 ((sorted Z).getD i default), ?_, .int _ _⟩
        have e1 : i * 1 + 0 = i := by omega
        rw [e1, putCells, Array.getElem?_mapIdx, Array.getElem?_eq_getElem hcs]
        simp only [Option.map_some]
        rw [if_pos ⟨by omega, by show off + i < off + (sorted Z).toArray.size; simpa using by omega⟩]
        have e2 : off + i - off = i := by omega
        rw [e2]
        show some (Value.int .i64 ((sorted Z).toArray[i]!)) = _
        simp [hi, List.getD]
      · have : b = blk := by simpa using hb'
        subst this
        have h3 := hO b (by simp)
        exact ⟨Nat.lt_of_lt_of_le h3.1 hsz', h3.2, .inl (by simp)⟩
end Go.Proofs.Ytffnlhjdlhpmjaa.Mv

/- Edits: how they lie in memory; sorting by putting in, one by one; removal. -/
set_option linter.unusedVariables false
set_option linter.unusedSimpArgs false
namespace Go.Proofs.Ytffnlhjdlhpmjaa.Mv
structure Turn where
  car : Int
  before : List Int
  after : List Int
deriving Inhabited, DecidableEq
structure Hold where
  n : Int
  before : Int
  after : Int
deriving Inhabited, DecidableEq
structure Delta where
  turns : List Turn
  locks : List Hold
  ices : List Hold
deriving Inhabited, DecidableEq
def kt (t : Turn) : List LV := [.int .i64 t.car, .sl (em ni t.before), .sl (em ni t.after)]
def kh (h : Hold) : List LV := [.int .i64 h.n, .int .i64 h.before, .int .i64 h.after]
def kd (d : Delta) : List LV := [.sl (em kt d.turns), .sl (em kh d.locks), .sl (em kh d.ices)]
def cmpI (a b : Int) : Int := if a < b then -1 else if b < a then 1 else 0
theorem cmpI_neg (a b : Int) : decide (cmpI a b < 0) = decide (a < b) := by
  unfold cmpI
  split
  · simp [*]
  · split <;> simp [*]
section
variable {α : Type} {f : α → List LV}
/-- Where an element comes to lie that goes forward past greater ones. -/
def posI [Inhabited α] (k : α → Int) (x : α) (p : List α) : Nat → Nat
  | 0 => 0
  | j + 1 => if k x < k (p.getD j default) then posI k x p j else j + 1
def mid (p : List α) (x : α) (r : List α) (j : Nat) : List α := p.take j ++ x :: (p.drop j ++ r)
def insI [Inhabited α] (k : α → Int) (p : List α) (x : α) : List α := p.take (posI k x p p.length) ++ x :: p.drop (posI k x p p.length)
def isort [Inhabited α] (k : α → Int) : List α → List α → List α
  | p, [] => p
  | p, x :: r => isort k (insI k p x) r
theorem posI_le [Inhabited α] (k : α → Int) (x : α) (p : List α) (j : Nat) : posI k x p j ≤ j := by
  induction j with
  | zero => exact Nat.le_refl _
  | succ j ih =>
    rw [posI]
    split
    · omega
    · exact Nat.le_refl _
theorem insI_len [Inhabited α] (k : α → Int) (p : List α) (x : α) : (insI k p x).length = p.length + 1 := by
  have := posI_le k x p p.length
  simp [insI]
  omega
theorem isort_len [Inhabited α] (k : α → Int) (p r : List α) : (isort k p r).length = p.length + r.length := by
  induction r generalizing p with
  | nil => simp [isort]
  | cons x r ih =>
    rw [isort, ih, insI_len]
    simp
    omega
theorem mid_len {p : List α} {x : α} {r : List α} {j : Nat} (hj : j ≤ p.length) : (mid p x r j).length = p.length + 1 + r.length := by
  simp [mid]
  omega
theorem mid_at {p : List α} {x : α} {r : List α} {i j : Nat} (hi : i = j) (hj : j ≤ p.length) : (em f (mid p x r j))[i]? = some (f x) := by
  subst hi
  simp [em, mid, List.getElem?_append_right, List.length_take, Nat.min_eq_left hj]
theorem mid_pr [Inhabited α] {p : List α} {x : α} {r : List α} {i j : Nat} (hi : i + 1 = j) (hj : j ≤ p.length) : (em f (mid p x r j))[i]? = some (f (p.getD i default)) := by
  have h : i < p.length := by omega
  have h2 : i < j := by omega
  simp [em, mid, List.getElem?_append_left, h, h2, Nat.min_eq_left hj, List.getElem?_take, List.getD]
theorem mid_swap [Inhabited α] {p : List α} {x : α} {r : List α} {i j : Nat} (hi : i + 1 = j) (hj : j ≤ p.length) : ((em f (mid p x r j)).set j (f (p.getD i default))).set i (f x) = em f (mid p x r i) := by
  subst hi
  have h : i < p.length := by omega
  have e1 : p.take (i + 1) = p.take i ++ [p.getD i default] := by
    rw [List.take_add_one]
    simp [h, List.getD]
  have e2 : p.drop i = p.getD i default :: p.drop (i + 1) := by
    rw [List.drop_eq_getElem_cons h]
    simp [h, List.getD]
  have l1 : (p.take i).length = i := by rw [List.length_take]; omega
  simp only [em, mid]
  rw [e2, e1]
  simp only [List.map_append, List.map_cons, List.append_assoc, List.cons_append, List.nil_append, List.map_nil]
  have l2 : (List.map f (p.take i)).length = i := by rw [List.length_map, l1]
  rw [List.set_append_right _ _ (by omega), List.set_append_right _ _ (by omega), l2]
  simp
theorem mid_full (p : List α) (x : α) (r : List α) : mid p x r p.length = p ++ x :: r := by simp [mid]
theorem mid_pos [Inhabited α] (k : α → Int) (p : List α) (x : α) (r : List α) : mid p x r (posI k x p p.length) = insI k p x ++ r := by simp [mid, insI]
end
end Go.Proofs.Ytffnlhjdlhpmjaa.Mv

/- Steps for removal in place; the first one that is so. -/
set_option linter.unusedVariables false
set_option linter.unusedSimpArgs false
namespace Go.Proofs.Ytffnlhjdlhpmjaa.Mv
theorem RetJX.normalW {P : Program} {rvs : List ResultVar} {ju : Option LV} {R : LV → LV → Prop} {st st' : St} (hw : Weak st st') (h : RetJ P rvs ju R st') : RetJX P rvs ju R .normal st := ⟨st', hw, h⟩
theorem RetJX.retW {P : Program} {rvs : List ResultVar} {ju : Option LV} {R : LV → LV → Prop} {st st' : St} (hw : Weak st st') (h : RetJ P rvs ju R st') : RetJX P rvs ju R .ret st := ⟨st', hw, h⟩
section
variable {P : Program} {I : InlP} {nb : Nat} {Q : Ex → St → Prop} {ops : Array Oper} {K : St → Prop} {r : List Oper} {ts : Slots} {m : Mem} {t : Nat} {ty : TypeId} {pos : String} {af : Array Edge} {d : Bool} {i : Nat} {acc : List (Nat × List Nat × List Nat)}
/-- The beginning of a slice of this call's own. -/
theorem GL.sliceToO (hI : InlM I) {st e : TypeId} {x hi : Operand} {kk : IntKind} {n : Int} {b g off len j : Nat} {y : Box} {sz : Nat} (ht : sliceE P st = some e) (hs : szT P e = some sz) (hx : evalO ts x = .own b g off len none) (hm : m b = some y) (hg : y.gen = g) (hk : y.kind = .slc) (hz : y.sz = sz) (hh : evalO ts hi = .int kk n)
    (h0 : 0 ≤ n) (h1 : n ≤ (len : Int)) (h2 : off + len ≤ y.es.length) (hj : n.toNat = j) (k : GL P I nb ops K d r (i + 1) ((i, [], [b]) :: acc) ⟨updS ts t (.own b g off j none), m⟩) : GL P I nb ops K d (⟨some t, .slice st x none (some hi) none, ty, pos, af, none⟩ :: r) i acc ⟨ts, m⟩ := by
  subst hj
  exact .stepP hI (.slice (l := 0) (h := n.toNat) hx hm hg hk ht (hz ▸ hs) rfl (by simp only [bndL]; rw [hh]; simp only [h0, if_true]) (Nat.zero_le _) (by omega) (by simp)) k
end
section
variable {α : Type}
def idxP (p : α → Bool) : List α → Int → Int
  | [], _ => -1
  | x :: r, i => if p x then i else idxP p r (i + 1)
theorem idxP_all [Inhabited α] (p : α → Bool) (l : List α) (j : Nat) (hj : j < l.length) : idxP p (l.drop j) j = if p (l.getD j default) then (j : Int) else idxP p (l.drop (j + 1)) ((j + 1 : Nat) : Int) := by
  have : l.drop j = l.getD j default :: l.drop (j + 1) := by
    rw [List.drop_eq_getElem_cons hj]
    simp [hj, List.getD]
  rw [this, idxP]
  rfl
theorem idxP_end (p : α → Bool) (l : List α) (j : Nat) (hj : l.length ≤ j) (i : Int) : idxP p (l.drop j) i = -1 := by
  rw [List.drop_of_length_le hj]
  rfl
/-- What the search finds: none, or the first one. -/
theorem idxP_spec [Inhabited α] (p : α → Bool) (l : List α) : ∀ n : Int, (idxP p l n = -1 ∧ ∀ x ∈ l, p x = false) ∨ ∃ j : Nat, j < l.length ∧ idxP p l n = n + j ∧ p (l.getD j default) = true ∧ ∀ x ∈ l.take j, p x = false := by
  induction l with
  | nil => exact fun n => .inl ⟨rfl, by simp⟩
  | cons x r ih =>
    intro n
    rw [idxP]
    by_cases h : p x = true
    · rw [if_pos h]
      exact .inr ⟨0, by simp, by simp, by simpa using h, by simp⟩
    · rw [if_neg h]
      have h' : p x = false := by simpa using h
      rcases ih (n + 1) with ⟨e1, e2⟩ | ⟨j, e1, e2, e3, e4⟩
      · exact .inl ⟨e1, fun y hy => by
          rcases List.mem_cons.1 hy with rfl | hy
          · exact h'
          · exact e2 y hy⟩
      · refine .inr ⟨j + 1, by simpa using e1, by rw [e2]; omega, by simpa using e3, fun y hy => ?_⟩
        rw [List.take_succ_cons] at hy
        rcases List.mem_cons.1 hy with rfl | hy
        · exact h'
        · exact e4 y hy
theorem getD_mem [Inhabited α] {l : List α} {j : Nat} (h : j < l.length) : l.getD j default ∈ l := by
  have : l.getD j default = l[j] := by simp [h, List.getD]
  rw [this]
  exact List.getElem_mem h
theorem take_snocG [Inhabited α] {l : List α} {j : Nat} (h : j < l.length) : l.take (j + 1) = l.take j ++ [l.getD j default] := by
  rw [List.take_add_one]
  simp [h, List.getD]
theorem take_set [Inhabited α] {s : List α} {i : Nat} {x : α} (h : i < s.length) : (s.set i x).take (i + 1) = s.take i ++ [x] := by
  rw [List.take_add_one, List.take_set_of_le (Nat.le_refl _)]
  simp [h]
theorem drop_getD_eq [Inhabited α] {s l : List α} {j : Nat} (h : s.drop j = l.drop j) (hj : j < l.length) : s.getD j default = l.getD j default := by
  have h1 := congrArg (fun z => z[0]?) h
  simp only [List.getElem?_drop, Nat.add_zero] at h1
  simp [List.getD, h1]
theorem drop_tail_eq {s l : List α} {j : Nat} (h : s.drop j = l.drop j) : s.drop (j + 1) = l.drop (j + 1) := by
  rw [← List.drop_drop, ← List.drop_drop, h]
theorem set_drop {s l : List α} {i j : Nat} {x : α} (hij : i < j) (h : s.drop j = l.drop j) : (s.set i x).drop j = l.drop j := by
  rw [List.drop_set_of_lt hij, h]
theorem filter_prefix {p : α → Bool} {l : List α} (h : ∀ x ∈ l, p x = false) : l.filter (fun x => !p x) = l := List.filter_eq_self.2 fun x hx => by rw [h x hx]; rfl
end
end Go.Proofs.Ytffnlhjdlhpmjaa.Mv

/- Maps that are sets of numbers; what is sorted does not hang on the order. -/
set_option linter.unusedVariables false
set_option linter.unusedSimpArgs false
namespace Go.Proofs.Ytffnlhjdlhpmjaa.Mv
def kb (n : Int) : List LV := [.int .i64 n, .bool true]
def addK (l : List Int) (n : Int) : List Int := if n ∈ l then l else l ++ [n]
theorem addK_nodup {l : List Int} (h : l.Nodup) (n : Int) : (addK l n).Nodup := by
  unfold addK
  split
  · exact h
  · rename_i hn
    exact List.nodup_append.2 ⟨h, by simp, fun a ha b hb => by
      rw [List.mem_singleton] at hb
      subst hb
      exact fun e => hn (e ▸ ha)⟩
theorem mem_addK {l : List Int} {n x : Int} : x ∈ addK l n ↔ x ∈ l ∨ x = n := by
  unfold addK
  split
  · rename_i h
    exact ⟨.inl, fun h' => h'.elim id fun e => e ▸ h⟩
  · simp
theorem addK_len (l : List Int) (n : Int) : (addK l n).length ≤ l.length + 1 := by
  unfold addK
  split <;> simp
theorem findL_kb {P : Program} {t : TypeId} (ht : P.underlying t = some (.int .i64)) (n : Int) : ∀ (l : List Int), findL P t (.int .i64 n) (em kb l) = some (if n ∈ l then some (.bool true) else none)
  | [] => rfl
  | x :: r => by
    show findL P t (.int .i64 n) ([.int .i64 x, .bool true] :: em kb r) = _
    simp only [findL, eqK, eqT, ht, if_true]
    by_cases e : n = x
    · subst e
      rw [show (n == n) = true by simp]
      simp
    · rw [show (n == x) = false by simpa using e]
      show findL P t (.int .i64 n) (em kb r) = _
      rw [findL_kb ht n r]
      simp [e]
theorem setL_kb {P : Program} {t : TypeId} (ht : P.underlying t = some (.int .i64)) (n : Int) : ∀ (l : List Int), setL P t (.int .i64 n) (.bool true) (em kb l) = em kb (addK l n)
  | [] => rfl
  | x :: r => by
    show setL P t (.int .i64 n) (.bool true) ([.int .i64 x, .bool true] :: em kb r) = _
    simp only [setL, eqK, eqT, ht, if_true]
    by_cases e : n = x
    · subst e
      rw [show (n == n) = true by simp]
      simp [addK, em, kb]
    · rw [show (n == x) = false by simpa using e]
      show _ :: setL P t (.int .i64 n) (.bool true) (em kb r) = _
      rw [setL_kb ht n r]
      unfold addK
      by_cases h : n ∈ r
      · simp [h, em, kb]
      · simp [h, e, em, kb]
section
variable {P : Program} {I : InlP} {nb : Nat} {Q : Ex → St → Prop} {ops : Array Oper} {K : St → Prop} {r : List Oper} {ts : Slots} {m : Mem} {t : Nat} {ty : TypeId} {pos : String} {af : Array Edge} {d : Bool} {i : Nat} {acc : List (Nat × List Nat × List Nat)}
theorem GL.setLook (hI : InlM I) {tt kt et : TypeId} {x ix : Operand} {b g : Nat} {y : Box} {n : Int} {l : List Int} (ht : P.underlying tt = some (.map kt et)) (hkt : P.underlying kt = some (.int .i64)) (hz : zero1L P et = some (.bool false)) (hx : evalO ts x = .mref b g) (hm : m b = some y) (hg : y.gen = g) (hk : y.kind = .mp) (hq : y.sz = 2) (he : y.es = em kb l) (hn : evalO ts ix = .int .i64 n)
    (k : GL P I nb ops K d r (i + 1) ((i, [], [b]) :: acc) ⟨updS ts t (.bool (decide (n ∈ l))), m⟩) : GL P I nb ops K d (⟨some t, .lookup tt x ix false, ty, pos, af, none⟩ :: r) i acc ⟨ts, m⟩ := by
  have h := OpR.lookup (d := nb + 64 * t) (ok := false) (ix := ix) hx hm hg hk hq ht (by rw [hn]; simp [keyK, scalK, hkt, pureL]) hz (by rw [hn, he]; exact findL_kb hkt n l)
  refine .stepP hI h ?_
  by_cases e : n ∈ l
  · rw [decide_eq_true e] at k
    rw [if_pos e]
    exact k
  · rw [decide_eq_false e] at k
    rw [if_neg e]
    exact k
theorem GL.setPut (hI : InlM I) {tt kt et : TypeId} {x ix y : Operand} {b g : Nat} {bx : Box} {n : Int} {l : List Int} (ht : P.underlying tt = some (.map kt et)) (hkt : P.underlying kt = some (.int .i64)) (hx : evalO ts x = .mref b g) (hm : m b = some bx) (hg : bx.gen = g) (hf : bx.frz = false) (hk : bx.kind = .mp) (hq : bx.sz = 2) (he : bx.es = em kb l) (hn : evalO ts ix = .int .i64 n) (hy : evalO ts y = .bool true)
    (k : GL P I nb ops K d r (i + 1) ((i, [b], [b]) :: acc) ⟨ts, updM m b ⟨g, false, .mp, bx.sz, em kb (addK l n)⟩⟩) : GL P I nb ops K d (⟨none, .mapUpdate tt x ix y, ty, pos, af, none⟩ :: r) i acc ⟨ts, m⟩ := by
  have h := OpR.mapUpdate (d := nb + 64 * 4000) (ix := ix) (y := y) hx hm hg hk hq hf ht (by rw [hn]; simp [keyK, scalK, hkt, pureL]) (by rw [hn, he]; exact findL_kb hkt n l) (.pure (by rw [hy]; rfl)) (by simp)
  refine .stepN hI h (by simp [hf, markE]) ?_
  rw [hn, hy, he, setL_kb hkt n l]
  simp only [markE, List.nil_append]
  simp only [effM, Wn, List.map]
  rw [hg, hf, hk]
  exact k
end
theorem kb_at {R : List Int} {j : Nat} {k v : LV} (h : (em kb R)[j]? = some [k, v]) : ∃ n : Int, R[j]? = some n ∧ k = .int .i64 n ∧ v = .bool true := by
  simp only [em, List.getElem?_map, Option.map_eq_some_iff, kb] at h
  obtain ⟨n, h1, h2⟩ := h
  injection h2 with h2 h3
  injection h3 with h3
  exact ⟨n, h1, h2.symm, h3.symm⟩
theorem em_erase {α : Type} (f : α → List LV) : ∀ (l : List α) (j : Nat), (em f l).eraseIdx j = em f (l.eraseIdx j)
  | [], j => by simp [em]
  | x :: r, 0 => rfl
  | x :: r, j + 1 => by
    show f x :: (em f r).eraseIdx j = f x :: em f (r.eraseIdx j)
    rw [em_erase f r j]
theorem erase_perm {α : Type} : ∀ {l : List α} {j : Nat} {n : α}, l[j]? = some n → (n :: l.eraseIdx j).Perm l
  | [], j, n, h => by simp at h
  | x :: r, 0, n, h => by
    simp at h
    subst h
    exact .refl _
  | x :: r, j + 1, n, h => by
    have h' : r[j]? = some n := by simpa using h
    show (n :: x :: r.eraseIdx j).Perm (x :: r)
    exact (List.Perm.swap x n _).trans ((erase_perm h').cons x)
theorem erase_len {α : Type} {l : List α} {j : Nat} {n : α} (h : l[j]? = some n) : (l.eraseIdx j).length + 1 = l.length := by
  have := (erase_perm h).length_eq
  simpa using this
theorem sorted_perm (l : List Int) : (sorted l).Perm l := List.mergeSort_perm _ _
theorem sorted_le (l : List Int) : (sorted l).Pairwise (fun a b => decide (a ≤ b) = true) := List.pairwise_mergeSort (fun a b c h1 h2 => by simp at *; omega) (fun a b => by simp; omega) l
theorem sorted_eq {l l' : List Int} (h : l.Perm l') : sorted l = sorted l' :=
  List.Perm.eq_of_pairwise (le := fun a b => decide (a ≤ b) = true) (fun a b _ _ h1 h2 => by simp at h1 h2; omega) (sorted_le l) (sorted_le l') (((sorted_perm l).trans h).trans (sorted_perm l').symm)
theorem sorted_of {l l' : List Int} (h : l.Perm l') (hs : l'.Pairwise (fun a b => decide (a ≤ b) = true)) : sorted l = l' :=
  List.Perm.eq_of_pairwise (le := fun a b => decide (a ≤ b) = true) (fun a b _ _ h1 h2 => by simp at h1 h2; omega) (sorted_le l) hs ((sorted_perm l).trans h)
/-- The sort of a slice that has no elements. -/
theorem sortN {P : Program} {f : FuncId} (hok : FuncOK P f) (h0 : ∀ (p : Option Addr) (cap : Nat) (w : World), Calls P f #[.slice p 0 cap] w fun e w' => e = .returned (.tuple #[]) ∧ w' = w) : CallsV P f [.sl []] (.tup []) := by
  refine ⟨hok, fun w F vs hrel hlt => ?_⟩
  obtain ⟨v, rfl, hv⟩ := (RelI.frz hrel).sole
  cases hv with
  | frz h =>
    cases h with
    | sl val hl hc ha hsz hcell hr =>
      have hl0 : _ = 0 := hl
      subst hl0
      refine (h0 _ _ w).mono fun e w' he => ?_
      obtain ⟨rfl, rfl⟩ := he
      exact ⟨_, _, F, [], rfl, rfl, Ext.refl _ _, fun b h => h, fun b h => .inl h, hlt, .frz (.tup rfl fun i v l hv => by simp at hv), by simp, by simp⟩
/-- The stops that are assigned before, and then; those that come or go, rising. -/
def collB (ts : List Turn) : List Int := ts.foldl (fun b t => t.before.foldl addK b) []
def collA (ts : List Turn) : List Int := ts.foldl (fun b t => t.after.foldl addK b) []
def movedL (d : Delta) : List Int := sorted ((collB d.turns).filter (fun s => !decide (s ∈ collA d.turns)) ++ (collA d.turns).filter (fun s => !decide (s ∈ collB d.turns)))
theorem coll_len (g : Turn → List Int) : ∀ (ts : List Turn) (b : List Int), (ts.foldl (fun b t => (g t).foldl addK b) b).length ≤ b.length + (ts.map fun t => (g t).length).sum := by
  have h1 : ∀ (l b : List Int), (l.foldl addK b).length ≤ b.length + l.length := by
    intro l
    induction l with
    | nil => intro b; simp
    | cons x r ih =>
      intro b
      have := ih (addK b x)
      have := addK_len b x
      simp only [List.foldl_cons, List.length_cons]
      omega
  intro ts
  induction ts with
  | nil => intro b; simp
  | cons t r ih =>
    intro b
    have := ih ((g t).foldl addK b)
    have := h1 (g t) b
    simp only [List.foldl_cons, List.map_cons, List.sum_cons]
    omega
end Go.Proofs.Ytffnlhjdlhpmjaa.Mv

/- The library's copy of a map, as a contract. -/
set_option linter.unusedVariables false
set_option linter.unusedSimpArgs false
namespace Go.Proofs.Ytffnlhjdlhpmjaa.Mv
theorem RelF.sole {w : World} {F : Nat → Prop} {vs : Array Value} {l : LV} (h : RelF w F (.agg vs) (.agg [l])) : ∃ v, vs = #[v] ∧ RelF w F v l := by
  cases h with
  | agg hn h =>
    have h1 : vs.size = 1 := hn
    have e : vs = #[vs[0]'(by omega)] := by
      apply Array.ext
      · simp [h1]
      · intro i q1 q2
        have : i = 0 := by simp at q2; exact q2
        subst this
        rfl
    exact ⟨_, e, h 0 _ _ (Array.getElem?_eq_getElem (by omega)) rfl⟩
theorem cloneMp {P : Program} {f : FuncId} (hok : FuncOK P f)
    (h1 : ∀ (b : Nat) (es : Array MapEntry) (clock : Nat) (w : World), w.heap[b]? = some (.map es clock) → Calls P f #[.map (some b)] w fun e w' => e = .returned (.map (some w.heap.size)) ∧ w' = w.alloc (.map es clock))
    (h0 : ∀ w : World, Calls P f #[.map none] w fun e w' => e = .returned (.map none) ∧ w' = w) (es : List (List LV)) : CallsV P f [.fmap es] (.fmap es) := by
  refine ⟨hok, fun w F vs hrel hlt => ?_⟩
  obtain ⟨v, rfl, hv⟩ := hrel.sole
  cases hv with
  | fmap0 =>
    refine (h0 w).mono fun e w' he => ?_
    obtain ⟨rfl, rfl⟩ := he
    exact ⟨_, _, F, [], rfl, rfl, Ext.refl _ _, fun b h => h, fun b h => .inl h, hlt, .frz .fmap0, List.nodup_nil, by simp⟩
  | @fmap r clock ents _ kv hF hr hwf hn he hk hv =>
    refine (h1 r ents clock w hr).mono fun e w' he => ?_
    obtain ⟨rfl, rfl⟩ := he
    have ea : (w.alloc (.map ents clock)).heap = w.heap.push (.map ents clock) := rfl
    have es' : (w.alloc (.map ents clock)).heap.size = w.heap.size + 1 := by rw [ea, Array.size_push]
    have hold : ∀ b, b < w.heap.size → (w.alloc (.map ents clock)).heap[b]? = w.heap[b]? := fun b hb => by
      rw [ea]
      simp [Array.getElem?_push, Nat.ne_of_lt hb]
    have hnew : (w.alloc (.map ents clock)).heap[w.heap.size]? = some (.map ents clock) := by rw [ea]; simp
    have hw : ∀ b, F b → (w.alloc (.map ents clock)).heap[b]? = w.heap[b]? := fun b hb => hold b (hlt b hb)
    refine ⟨_, _, fun b => F b ∨ b = w.heap.size, [], rfl, rfl, ⟨rfl, rfl, rfl, by omega, fun k h _ => hold k h⟩, fun b h => .inl h, fun b h => h.imp id (fun h => by omega), fun b h => ?_, .frz (.fmap kv (.inr rfl) hnew hwf hn he (fun i e h => (hk i e h).mono (fun b h => .inl h) hw) (fun i e h => (hv i e h).mono (fun b h => .inl h) hw)), List.nodup_nil, by simp⟩
    rcases h with h | h
    · have := hlt b h
      omega
    · subst h
      omega
theorem cloneM0 {P : Program} {f : FuncId} (hok : FuncOK P f) (h0 : ∀ w : World, Calls P f #[.map none] w fun e w' => e = .returned (.map none) ∧ w' = w) : CallsV P f [.nilm] .nilm := by
  refine ⟨hok, fun w F vs hrel hlt => ?_⟩
  obtain ⟨v, rfl, hv⟩ := hrel.sole
  cases hv with
  | nilm =>
    refine (h0 w).mono fun e w' he => ?_
    obtain ⟨rfl, rfl⟩ := he
    exact ⟨_, _, F, [], rfl, rfl, Ext.refl _ _, fun b h => h, fun b h => .inl h, hlt, .frz .nilm, List.nodup_nil, by simp⟩
theorem FlatI.sl0 : FlatI (.sl []) := by
  intro w F F' v O h
  cases h with
  | frz h =>
    cases h with
    | sl val hl hc ha hsz hcell hrel =>
      have h0 := hl
      simp only [List.length_nil] at h0
      subst h0
      exact .frz (.sl (blk := 0) (off := 0) (sz := 0) (fun _ _ => Go.undef) rfl hc (fun h => absurd h (by omega)) (by simp) (by simp) (by simp))
theorem FlatI.nilm : FlatI .nilm := by
  intro w F F' v O h
  cases h with
  | frz h =>
    cases h with
    | nilm => exact .frz .nilm
theorem Exp.sloW {m : Mem} {b g len sz : Nat} {x : Box} {es : List (List LV)} (hm : m b = Option.some x) (hg : x.gen = g) (hf : x.frz = false) (hk : x.kind = .slc) (hs : x.sz = sz) (he : x.es = es) (hl : len = es.length) : Exp m (.own b g 0 len none) (.slo sz es) [] [b] := by
  subst hs he hl
  have := Exp.slo (m := m) (b := b) (g := g) (off := 0) (len := x.es.length) hm hg hf hk (by omega)
  rwa [List.drop_zero] at this
end Go.Proofs.Ytffnlhjdlhpmjaa.Mv

/- Plans: how they lie in memory; where a stop is; what is held. -/
set_option linter.unusedVariables false
set_option linter.unusedSimpArgs false
namespace Go.Proofs.Ytffnlhjdlhpmjaa.Mv
structure Plan where
  routes : List (List Int)
  lock : List Int
  ice : List Int
  rv : List Int
  sv : List Int
  iv : List Int
  pv : Int
deriving Inhabited, DecidableEq
def kp (p : Plan) : List LV := [.sl (em nr p.routes), .sl (em ni p.lock), .sl (em ni p.ice), .sl (em ni p.rv), .sl (em ni p.sv), .sl (em ni p.iv), .int .i64 p.pv]
/-- A plan whose memory is the caller's own. -/
def kpo (p : Plan) : LV := .agg [.slo 1 (em nr p.routes), .slo 1 (em ni p.lock), .slo 1 (em ni p.ice), .slo 1 (em ni p.rv), .slo 1 (em ni p.sv), .slo 1 (em ni p.iv), .int .i64 p.pv]
structure OkP (p : Plan) : Prop where
  routes : p.routes.length ≤ 1000000
  each : ∀ r ∈ p.routes, r.length ≤ 1000000
  lock : p.lock.length ≤ 1000000
  ice : p.ice.length ≤ 1000000
  rv : p.rv.length ≤ 1000000
  sv : p.sv.length ≤ 1000000
  iv : p.iv.length ≤ 1000000
def okPb (p : Plan) : Bool := decide (p.routes.length ≤ 1000000) && (p.routes.all (fun r => decide (r.length ≤ 1000000)) && (decide (p.lock.length ≤ 1000000) && (decide (p.ice.length ≤ 1000000) && (decide (p.rv.length ≤ 1000000) && (decide (p.sv.length ≤ 1000000) && decide (p.iv.length ≤ 1000000))))))
theorem okP_of {p : Plan} (h : okPb p = true) : OkP p := by
  simp only [okPb, Bool.and_eq_true, decide_eq_true_eq, List.all_eq_true] at h
  exact ⟨h.1, h.2.1, h.2.2.1, h.2.2.2.1, h.2.2.2.2.1, h.2.2.2.2.2.1, h.2.2.2.2.2.2⟩
def whereGo (s : Int) : List (List Int) → Int → Int × Int
  | [], _ => (-1, -1)
  | r :: t, k => if index r s ≥ 0 then (k, index r s) else whereGo s t (k + 1)
def whereR (R : List (List Int)) (s : Int) : Int × Int := whereGo s R 0
theorem where_go {s : Int} {R : List (List Int)} {i : Nat} (h : i < R.length) (hx : ¬ index (R.getD i default) s ≥ 0) : whereGo s (R.drop i) (i : Int) = whereGo s (R.drop (i + 1)) ((i + 1 : Nat) : Int) := by
  rw [drop_getD h, whereGo, if_neg hx]
  rfl
theorem where_hit {s : Int} {R : List (List Int)} {i : Nat} (h : i < R.length) (hx : index (R.getD i default) s ≥ 0) : whereGo s (R.drop i) (i : Int) = ((i : Int), index (R.getD i default) s) := by
  rw [drop_getD h, whereGo, if_pos hx]
theorem where_end {s : Int} {R : List (List Int)} {i : Nat} (h : ¬ i < R.length) : whereGo s (R.drop i) (i : Int) = (-1, -1) := by
  rw [drop_all h, whereGo]
def other (h w : Int) : Bool := decide (h ≠ -1) && decide (h ≠ w)
theorem any_idxP {α : Type} [Inhabited α] (p : α → Bool) (l : List α) : decide (idxP p l 0 ≥ 0) = l.any p := by
  rcases idxP_spec p l 0 with ⟨h1, h2⟩ | ⟨j, h1, h2, h3, -⟩
  · rw [h1]
    symm
    simpa using fun x hx => h2 x hx
  · rw [h2]
    have e : l.any p = true := List.any_eq_true.2 ⟨_, getD_mem h1, h3⟩
    rw [e]
    simp
def icedB (p : Plan) (t : Turn) : Bool := decide (0 ≤ t.car) && (decide (t.car < p.ice.length) && decide (p.ice.getD t.car.toNat default ≠ -1))
def setR1 (R : List (List Int)) (t : Turn) : List (List Int) := if 0 ≤ t.car ∧ t.car < R.length then R.set t.car.toNat t.after else R
def setR (R : List (List Int)) (l : List Turn) : List (List Int) := l.foldl setR1 R
theorem setR1_len (R : List (List Int)) (t : Turn) : (setR1 R t).length = R.length := by
  unfold setR1
  split <;> simp
theorem setR_len (R : List (List Int)) (l : List Turn) : (setR R l).length = R.length := by
  induction l generalizing R with
  | nil => rfl
  | cons t r ih => rw [setR, List.foldl_cons, ← setR, ih, setR1_len]
theorem setR_snoc (R : List (List Int)) (l : List Turn) {i : Nat} (h : i < l.length) : setR R (l.take (i + 1)) = setR1 (setR R (l.take i)) (l.getD i default) := by
  rw [take_snocG h, setR, List.foldl_append]
  rfl
theorem setR_each {N : Nat} {R : List (List Int)} (hR : ∀ r ∈ R, r.length ≤ N) (l : List Turn) (hl : ∀ t ∈ l, t.after.length ≤ N) : ∀ r ∈ setR R l, r.length ≤ N := by
  induction l generalizing R with
  | nil => exact hR
  | cons t l ih =>
    rw [setR, List.foldl_cons, ← setR]
    refine ih (fun r hr => ?_) fun t ht => hl t (List.mem_cons_of_mem _ ht)
    unfold setR1 at hr
    split at hr
    · rcases List.mem_or_eq_of_mem_set hr with h | h
      · exact hR r h
      · rw [h]; exact hl t (by simp)
    · exact hR r hr
def badS (R R' : List (List Int)) (lock : List Int) (who : Int) (s : Nat) : Bool := decide (0 < s) && (other (lock.getD s default) who && decide (whereR R s ≠ whereR R' s))
def movedB (R R' : List (List Int)) (lock : List Int) (who : Int) : Bool := (List.range lock.length).any (badS R R' lock who)
theorem moved_no {R R' : List (List Int)} {lock : List Int} {who : Int} (h : ∀ j, j < lock.length → badS R R' lock who j = false) : movedB R R' lock who = false := by
  unfold movedB
  simpa using h
theorem moved_yes {R R' : List (List Int)} {lock : List Int} {who : Int} {j : Nat} (hj : j < lock.length) (h : badS R R' lock who j = true) : movedB R R' lock who = true :=
  List.any_eq_true.2 ⟨j, List.mem_range.2 hj, h⟩
def relGo (who : Int) : List Int → Int → List Hold
  | [], _ => []
  | h :: t, k => if h = who ∧ who ≠ -1 then ⟨k, who, -1⟩ :: relGo who t (k + 1) else relGo who t (k + 1)
def releaseL (l : List Int) (who : Int) : List Hold := relGo who l 0
theorem relGo_len (who : Int) : ∀ (l : List Int) (k : Int), (relGo who l k).length ≤ l.length
  | [], _ => Nat.le_refl _
  | h :: t, k => by
    rw [relGo]
    have := relGo_len who t (k + 1)
    split <;> simp <;> omega
theorem rel_yes {who : Int} {l : List Int} {i : Nat} {r : List Hold} (h : i < l.length) (h1 : l.getD i default = who) (h2 : who ≠ -1) : r ++ relGo who (l.drop i) (i : Int) = (r ++ [⟨(i : Int), who, -1⟩]) ++ relGo who (l.drop (i + 1)) ((i + 1 : Nat) : Int) := by
  rw [drop_getD h, relGo, if_pos ⟨h1, h2⟩, List.append_assoc]
  rfl
theorem rel_no {who : Int} {l : List Int} {i : Nat} {r : List Hold} (h : i < l.length) (h1 : ¬ (l.getD i default = who ∧ who ≠ -1)) : r ++ relGo who (l.drop i) (i : Int) = r ++ relGo who (l.drop (i + 1)) ((i + 1 : Nat) : Int) := by
  rw [drop_getD h, relGo, if_neg h1]
  rfl
section
variable {P : Program} {I : InlP} {nb : Nat} {ops : Array Oper} {K : St → Prop} {r : List Oper} {ts : Slots} {m : Mem} {t : Nat} {ty : TypeId} {pos : String} {af : Array Edge} {d : Bool} {i : Nat} {acc : List (Nat × List Nat × List Nat)}
/-- A struct of which parts are structs. -/
theorem GL.buildG (hI : InlM I) {e : TypeId} {ps : Array (Nat × Operand)} {vs : List (Nat × LV)} {z cs : List LV} (hz : zeroL P e = some z) (hs : sizesOk P e = true) (hv : EvS ts ps.toList vs) (hp : (vs.all fun p => (cellsL p.2).all oneC) = true) (h : fillL (placeS P e) z vs = some cs)
    (k : GL P I nb ops K d r (i + 1) ((i, [], []) :: acc) ⟨updS ts t (.agg cs), m⟩) : GL P I nb ops K d (⟨some t, .build e ps, ty, pos, af, none⟩ :: r) i acc ⟨ts, m⟩ := by
  refine .build hI ?_ (by rw [hv.all]; exact hp) k
  rw [hv.map, buildL, hz]
  simp only [hs, if_true, h, Option.map_some]
end
end Go.Proofs.Ytffnlhjdlhpmjaa.Mv

/- Problems that may be. -/
set_option linter.unusedVariables false
set_option linter.unusedSimpArgs false
namespace Go.Proofs.Ytffnlhjdlhpmjaa.Mv
def between (a b c : Int) : Bool := decide (b ≤ a) && decide (a ≤ c)
theorem between_iff {a b c : Int} : between a b c = true ↔ b ≤ a ∧ a ≤ c := by simp [between]
theorem between_not {a b c : Int} : between a b c = false ↔ ¬ (b ≤ a ∧ a ≤ c) := by
  rw [← between_iff]
  simp
def carOk (c : Car) : Bool := between c.c0 0 60 && (between c.c2 0 1000 && between c.c1 0 c.c2)
def stopOk (s : Stop) : Bool := between s.s0 (-20) 20 && (between s.s2 0 1000 && (between s.s1 0 s.s2 && between s.s3 0 1000))
/-- A stop of a pair is put to those that were had. -/
def had1 (n : Nat) (x : Int) (h : List Int) : Option (List Int) := if between x 1 n = true ∧ x ∉ h then some (addK h x) else none
def pairOk (i : Inst) (p : Two) (h : List Int) : Option (List Int) :=
  match had1 i.stops.length p.p0 h with
  | none => none
  | some h1 =>
    match had1 i.stops.length p.p1 h1 with
    | none => none
    | some h2 => if (stopAt i p.p0).s0 < 0 ∨ (stopAt i p.p1).s0 ≠ -(stopAt i p.p0).s0 then none else some h2
def pairsGo (i : Inst) : List Two → List Int → Bool
  | [], _ => true
  | p :: r, h =>
    match pairOk i p h with
    | none => false
    | some h' => pairsGo i r h'
theorem pairs_go {i : Inst} {h h' : List Int} {k : Nat} (hk : k < i.pairs.length) (hp : pairOk i (i.pairs.getD k default) h = some h') : pairsGo i (i.pairs.drop k) h = pairsGo i (i.pairs.drop (k + 1)) h' := by
  rw [drop_getD hk, pairsGo, hp]
theorem pairs_no {i : Inst} {h : List Int} {k : Nat} (hk : k < i.pairs.length) (hp : pairOk i (i.pairs.getD k default) h = none) : pairsGo i (i.pairs.drop k) h = false := by
  rw [drop_getD hk, pairsGo, hp]
theorem pairs_end {i : Inst} {h : List Int} {k : Nat} (hk : ¬ k < i.pairs.length) : pairsGo i (i.pairs.drop k) h = true := by
  rw [drop_all hk, pairsGo]
theorem pair_same {i : Inst} {p : Two} {h : List Int} (e : p.p0 = p.p1) : pairOk i p h = none := by
  unfold pairOk had1
  split
  · rfl
  · rename_i h1 hh
    split at hh
    · rename_i hc
      injection hh with hh
      subst hh
      rw [if_neg]
      rintro ⟨-, hn⟩
      exact hn (mem_addK.2 (.inr e.symm))
    · cases hh
/-- What the stops of a pair, one by one, come to. -/
def hadK (n : Nat) (p : Two) (h : List Int) : Nat → Option (List Int)
  | 0 => some h
  | 1 => had1 n p.p0 h
  | _ => (had1 n p.p0 h).bind (had1 n p.p1)
theorem pair_had {i : Inst} {p : Two} {h : List Int} : pairOk i p h = (hadK i.stops.length p h 2).bind fun h2 => if (stopAt i p.p0).s0 < 0 ∨ (stopAt i p.p1).s0 ≠ -(stopAt i p.p0).s0 then none else some h2 := by
  unfold pairOk hadK
  cases h1 : had1 i.stops.length p.p0 h with
  | none => rfl
  | some a =>
    cases h2 : had1 i.stops.length p.p1 a with
    | none => simp only [Option.bind_some, h2, Option.bind_none]
    | some b => simp only [Option.bind_some, h2]
def atK (p : Two) (k : Nat) : Int := if k = 0 then p.p0 else p.p1
theorem hadK_step {n : Nat} {p : Two} {h h' : List Int} {k : Nat} (hk : k < 2) (e : hadK n p h k = some h') : hadK n p h (k + 1) = had1 n (atK p k) h' := by
  match k with
  | 0 =>
    simp only [hadK, Option.some.injEq] at e
    subst e
    rfl
  | 1 =>
    show (had1 n p.p0 h).bind (had1 n p.p1) = _
    rw [show had1 n p.p0 h = some h' from e]
    rfl
theorem hadK_none {n : Nat} {p : Two} {h : List Int} {k : Nat} (hk : k < 2) (e : hadK n p h (k + 1) = none) : hadK n p h 2 = none := by
  match k with
  | 0 =>
    show (had1 n p.p0 h).bind (had1 n p.p1) = none
    rw [show had1 n p.p0 h = none from e]
    rfl
  | 1 => exact e
theorem had1_some {n : Nat} {x : Int} {h h' : List Int} (e : had1 n x h = some h') : between x 1 n = true ∧ h' = addK h x := by
  unfold had1 at e
  split at e
  · rename_i hc
    injection e with e
    exact ⟨hc.1, e.symm⟩
  · cases e
theorem hadK_in {n : Nat} {p : Two} {h h' : List Int} (e : hadK n p h 2 = some h') : (1 ≤ p.p0 ∧ p.p0 ≤ n) ∧ (1 ≤ p.p1 ∧ p.p1 ≤ n) ∧ h'.length ≤ h.length + 2 := by
  have e : (had1 n p.p0 h).bind (had1 n p.p1) = some h' := e
  cases h1 : had1 n p.p0 h with
  | none => rw [h1] at e; cases e
  | some a =>
    rw [h1] at e
    have e : had1 n p.p1 a = some h' := e
    obtain ⟨a1, a2⟩ := had1_some h1
    obtain ⟨b1, b2⟩ := had1_some e
    have := addK_len h p.p0
    have := addK_len a p.p1
    rw [← a2] at *
    rw [← b2] at *
    exact ⟨between_iff.1 a1, between_iff.1 b1, by omega⟩
def rowOk (m a : Nat) (r : List Int) : Bool := decide (r.length = m) && (decide (r.getD a default = 0) && r.all fun n => between n 0 1000)
def rowsGo (m : Nat) : Nat → List (List Int) → Bool
  | _, [] => true
  | a, r :: t => rowOk m a r && rowsGo m (a + 1) t
theorem rows_go {m : Nat} {R : List (List Int)} {a : Nat} (ha : a < R.length) (h : rowOk m a (R.getD a default) = true) : rowsGo m a (R.drop a) = rowsGo m (a + 1) (R.drop (a + 1)) := by
  rw [drop_getD ha, rowsGo, h, Bool.true_and]
theorem rows_no {m : Nat} {R : List (List Int)} {a : Nat} (ha : a < R.length) (h : rowOk m a (R.getD a default) = false) : rowsGo m a (R.drop a) = false := by
  rw [drop_getD ha, rowsGo, h, Bool.false_and]
theorem rows_end {m : Nat} {R : List (List Int)} {a : Nat} (ha : ¬ a < R.length) : rowsGo m a (R.drop a) = true := by
  rw [drop_all ha, rowsGo]
def travelOk (i : Inst) : Bool := decide (i.travel.length = i.stops.length + 1) && rowsGo (i.stops.length + 1) 0 i.travel
def checkB (i : Inst) : Bool := between i.cars.length 1 3 && (decide (i.stops.length ≤ 10) && (i.cars.all carOk && (i.stops.all stopOk && (pairsGo i i.pairs [] && travelOk i))))
theorem all_no {α : Type} [Inhabited α] {l : List α} {f : α → Bool} {k : Nat} (hk : k < l.length) (h : f (l.getD k default) = false) : l.all f = false := by
  rw [← Bool.not_eq_true, List.all_eq_true]
  intro hh
  rw [hh _ (getD_mem hk)] at h
  cases h
theorem all_yes {α : Type} [Inhabited α] {l : List α} {f : α → Bool} (h : ∀ j, j < l.length → f (l.getD j default) = true) : l.all f = true := by
  rw [List.all_eq_true]
  intro x hx
  obtain ⟨j, hj, rfl⟩ := List.getElem_of_mem hx
  have := h j hj
  simpa [List.getD, hj] using this
theorem all_getD {α : Type} [Inhabited α] {l : List α} {f : α → Bool} {k : Nat} (hk : k < l.length) (h : l.all f = true) : f (l.getD k default) = true := List.all_eq_true.1 h _ (getD_mem hk)
end Go.Proofs.Ytffnlhjdlhpmjaa.Mv

/- The first plan of a problem. -/
set_option linter.unusedVariables false
set_option linter.unusedSimpArgs false
namespace Go.Proofs.Ytffnlhjdlhpmjaa.Mv
def zeroP : Plan := ⟨[], [], [], [], [], [], 0⟩
def newP (i : Inst) : Plan := if checkB i = true then ⟨List.replicate i.cars.length [], List.replicate (i.stops.length + 1) (-1), List.replicate i.cars.length (-1), List.replicate i.cars.length 0, List.replicate (i.stops.length + 1) 0, List.replicate i.cars.length 0, 0⟩ else zeroP
/-- A list that is being filled. -/
def fillN (n : Nat) (x : Int) (k : Nat) : List Int := List.replicate k x ++ List.replicate (n - k) 0
theorem fillN_len {n : Nat} {x : Int} {k : Nat} (h : k ≤ n) : (fillN n x k).length = n := by
  simp [fillN]
  omega
theorem fillN_set {n : Nat} {x : Int} {k : Nat} (h : k < n) : (fillN n x k).set k x = fillN n x (k + 1) := by
  unfold fillN
  rw [List.set_append_right _ _ (by simp)]
  obtain ⟨m, hm⟩ : ∃ m, n - k = m + 1 := ⟨n - k - 1, by omega⟩
  rw [hm, show n - (k + 1) = m by omega, List.length_replicate, Nat.sub_self, List.replicate_succ, List.set_cons_zero, List.replicate_succ', List.append_assoc]
  rfl
theorem fillN_all (n : Nat) (x : Int) : fillN n x n = List.replicate n x := by simp [fillN]
theorem fillN_zero (n : Nat) (x : Int) : fillN n x 0 = List.replicate n 0 := by simp [fillN]
theorem checkB_len {i : Inst} (h : checkB i = true) : 1 ≤ i.cars.length ∧ i.cars.length ≤ 3 ∧ i.stops.length ≤ 10 := by
  unfold checkB at h
  simp only [Bool.and_eq_true, between_iff, decide_eq_true_eq] at h
  omega
end Go.Proofs.Ytffnlhjdlhpmjaa.Mv

/- Is a plan right; is what is held kept. -/
set_option linter.unusedVariables false
set_option linter.unusedSimpArgs false
namespace Go.Proofs.Ytffnlhjdlhpmjaa.Mv
def lengthsB (i : Inst) (p : Plan) : Bool := decide (p.routes.length = i.cars.length) && (decide (p.ice.length = i.cars.length) && (decide (p.rv.length = i.cars.length) && (decide (p.iv.length = i.cars.length) && (decide (p.lock.length = i.stops.length + 1) && decide (p.sv.length = i.stops.length + 1)))))
def holderX (w : Int) : Bool := decide (w < -1) || decide (w ≥ 6)
def holdersB (l : List Int) : Bool := !l.any holderX
/-- Stops that there are, each once. -/
def onceN (n : Nat) : List Int → List Int → Bool
  | [], _ => true
  | x :: r, h => if (x < 1 ∨ x > n) ∨ x ∈ h then false else onceN n r (addK h x)
def onceA (n : Nat) (R : List (List Int)) : Bool := onceN n R.flatten []
theorem onceN_step {n : Nat} {x : Int} {r h : List Int} (hx : ¬ ((x < 1 ∨ x > n) ∨ x ∈ h)) : onceN n (x :: r) h = onceN n r (addK h x) := by rw [onceN, if_neg hx]
theorem onceN_no {n : Nat} {x : Int} {r h : List Int} (hx : (x < 1 ∨ x > n) ∨ x ∈ h) : onceN n (x :: r) h = false := by rw [onceN, if_pos hx]
def drivenK (i : Inst) (R : List (List Int)) (k : Nat) : Bool := (eval i (k : Int) (R.getD k default)).isSome
def drivenB (i : Inst) (R : List (List Int)) : Bool := (List.range R.length).all (drivenK i R)
theorem driven_no {i : Inst} {R : List (List Int)} {k : Nat} (hk : k < R.length) (h : drivenK i R k = false) : drivenB i R = false := by
  unfold drivenB
  rw [← Bool.not_eq_true, List.all_eq_true]
  intro hh
  rw [hh k (List.mem_range.2 hk)] at h
  cases h
theorem driven_yes {i : Inst} {R : List (List Int)} (h : ∀ k, k < R.length → drivenK i R k = true) : drivenB i R = true := by
  unfold drivenB
  rw [List.all_eq_true]
  exact fun k hk => h k (List.mem_range.1 hk)
def auditC (i : Inst) (p : Plan) : Int :=
  if checkB i = false then 1 else if (lengthsB i p && (holdersB p.lock && holdersB p.ice)) = false then 1 else if onceA i.stops.length p.routes = false then 4 else if drivenB i p.routes = false then 13 else 0
def iceBad (a b : Plan) (c : Nat) : Bool := decide (a.ice.getD c default ≠ -1) && (decide (c < a.routes.length) && (decide (c ≥ b.routes.length) || decide (a.routes.getD c default ≠ b.routes.getD c default)))
def lockBad (a b : Plan) (who : Int) (s : Nat) : Bool := !(decide (s = 0) || (decide (a.lock.getD s default = -1) || decide (a.lock.getD s default = who))) && (decide (s ≥ b.lock.length) || (decide (b.lock.getD s default ≠ a.lock.getD s default) || decide (whereR a.routes s ≠ whereR b.routes s)))
def keptB (a b : Plan) (who : Int) : Bool := (List.range a.ice.length).all (fun c => !iceBad a b c) && (List.range a.lock.length).all fun s => !lockBad a b who s
theorem kept_ice {a b : Plan} {who : Int} {c : Nat} (hc : c < a.ice.length) (h : iceBad a b c = true) : keptB a b who = false := by
  unfold keptB
  have : (List.range a.ice.length).all (fun c => !iceBad a b c) = false := by
    rw [← Bool.not_eq_true, List.all_eq_true]
    intro hh
    have := hh c (List.mem_range.2 hc)
    rw [h] at this
    cases this
  rw [this, Bool.false_and]
theorem kept_lock {a b : Plan} {who : Int} {s : Nat} (hs : s < a.lock.length) (h : lockBad a b who s = true) : keptB a b who = false := by
  unfold keptB
  have : (List.range a.lock.length).all (fun s => !lockBad a b who s) = false := by
    rw [← Bool.not_eq_true, List.all_eq_true]
    intro hh
    have := hh s (List.mem_range.2 hs)
    rw [h] at this
    cases this
  rw [this, Bool.and_false]
theorem kept_yes {a b : Plan} {who : Int} (h1 : ∀ c, c < a.ice.length → iceBad a b c = false) (h2 : ∀ s, s < a.lock.length → lockBad a b who s = false) : keptB a b who = true := by
  unfold keptB
  rw [Bool.and_eq_true, List.all_eq_true, List.all_eq_true]
  exact ⟨fun c hc => by rw [h1 c (List.mem_range.1 hc)]; rfl, fun s hs => by rw [h2 s (List.mem_range.1 hs)]; rfl⟩
end Go.Proofs.Ytffnlhjdlhpmjaa.Mv
