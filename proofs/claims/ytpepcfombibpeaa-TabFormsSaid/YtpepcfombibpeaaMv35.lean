/- Maps that tell where a number stands in a list. -/
import Derived.Test.YtpepcfombibpeaaMv34
set_option linter.unusedVariables false
set_option linter.unusedSimpArgs false
namespace Go.Proofs.Ytpepcfombibpeaa.Mv

/-- A map from the numbers of a list to their places, counted from c on. -/
def ents (c : Int) : List Int → List (List LV)
  | [] => []
  | x :: r => [.int .i64 x, .int .i64 c] :: ents (c + 1) r
/-- What such a map answers. -/
def look (c : Int) (l : List Int) (n : Int) : Int := if index l n < 0 then 0 else c + index l n
theorem findL_ents {P : Program} {t : TypeId} (ht : P.underlying t = some (.int .i64)) (n : Int) : ∀ (l : List Int) (c : Int), findL P t (.int .i64 n) (ents c l) = some (if index l n < 0 then none else some (.int .i64 (c + index l n)))
  | [], c => rfl
  | x :: r, c => by
    have h1 := index_ge r n
    have ei : index (x :: r) n = if n = x then 0 else if index r n < 0 then -1 else index r n + 1 := rfl
    rw [ei]
    simp only [ents, findL, eqT, ht, if_true]
    by_cases e : n = x
    · subst e
      rw [show (n == n) = true by simp]
      simp
    · rw [show (n == x) = false by simpa using e]
      show findL P t (.int .i64 n) (ents (c + 1) r) = _
      rw [findL_ents ht n r (c + 1)]
      by_cases h : index r n < 0
      · simp [e, h]
      · have : ¬ index r n + 1 < 0 := by omega
        simp only [e, h, this, if_false, show c + 1 + index r n = c + (index r n + 1) by omega]
theorem setL_ents {P : Program} {t : TypeId} (ht : P.underlying t = some (.int .i64)) (n : Int) : ∀ (l : List Int) (c v : Int), index l n < 0 → v = c + l.length → setL P t (.int .i64 n) (.int .i64 v) (ents c l) = ents c (l ++ [n])
  | [], c, v, _, h => by subst h; simp [ents, setL]
  | x :: r, c, v, h0, h => by
    have h1 := index_ge r n
    simp only [index] at h0
    have e : n ≠ x := fun e => by rw [if_pos e] at h0; omega
    rw [if_neg e] at h0
    have hr : index r n < 0 := by
      by_cases hq : index r n < 0
      · exact hq
      · rw [if_neg hq] at h0; omega
    simp only [ents, setL, eqT, ht, if_true, List.cons_append]
    rw [show (n == x) = false by simpa using e]
    show _ :: setL P t (.int .i64 n) (.int .i64 v) (ents (c + 1) r) = _
    rw [setL_ents ht n r (c + 1) v hr (by simp at h; omega)]
section
variable {P : Program} {I : InlP} {nb : Nat} {Q : Ex → St → Prop} {ops : Array Oper} {K : St → Prop} {r : List Oper} {ts : Slots} {m : Mem} {t : Nat} {ty : TypeId} {pos : String} {af : Array Edge} {d : Bool} {i : Nat} {acc : List (Nat × List Nat × List Nat)}
theorem GL.makeMap (hI : InlM I) {e : TypeId} (k : ∀ g, GL P I nb ops K d r (i + 1) ((i, [nb + 64 * t], [nb + 64 * t]) :: acc) ⟨updS ts t (.mref (nb + 64 * t) g), updM m (nb + 64 * t) ⟨g, false, .mp, 2, []⟩⟩) :
    GL P I nb ops K d (⟨some t, .makeMap e none, ty, pos, af, none⟩ :: r) i acc ⟨ts, m⟩ := .step hI .makeMap (by simp) (k _)
theorem GL.look1 (hI : InlM I) {tt kt et : TypeId} {x ix : Operand} {b g : Nat} {y : Box} {c n : Int} {l : List Int} (ht : P.underlying tt = some (.map kt et)) (hkt : P.underlying kt = some (.int .i64)) (hz : zero1L P et = some (.int .i64 0)) (hx : evalO ts x = .mref b g) (hm : m b = some y) (hg : y.gen = g) (hk : y.kind = .mp) (he : y.es = ents c l) (hn : evalO ts ix = .int .i64 n)
    (k : GL P I nb ops K d r (i + 1) ((i, [], [b]) :: acc) ⟨updS ts t (.int .i64 (look c l n)), m⟩) : GL P I nb ops K d (⟨some t, .lookup tt x ix false, ty, pos, af, none⟩ :: r) i acc ⟨ts, m⟩ := by
  have h := OpR.lookup (d := nb + 64 * t) (ok := false) (ix := ix) hx hm hg hk ht (by unfold scalK; rw [hkt]) hz (by rw [hn, he]; exact findL_ents hkt n l c)
  refine .stepP hI h ?_
  unfold look at k
  by_cases e : index l n < 0
  · rw [if_pos e] at k ⊢; exact k
  · rw [if_neg e] at k ⊢; exact k
theorem GL.look2 (hI : InlM I) {tt kt et : TypeId} {x ix : Operand} {b g : Nat} {y : Box} {c n : Int} {l : List Int} (ht : P.underlying tt = some (.map kt et)) (hkt : P.underlying kt = some (.int .i64)) (hz : zero1L P et = some (.int .i64 0)) (hx : evalO ts x = .mref b g) (hm : m b = some y) (hg : y.gen = g) (hk : y.kind = .mp) (he : y.es = ents c l) (hn : evalO ts ix = .int .i64 n)
    (k : GL P I nb ops K d r (i + 1) ((i, [], [b]) :: acc) ⟨updS ts t (.tup [.int .i64 (look c l n), .bool (Mv.has l n)]), m⟩) : GL P I nb ops K d (⟨some t, .lookup tt x ix true, ty, pos, af, none⟩ :: r) i acc ⟨ts, m⟩ := by
  have h := OpR.lookup (d := nb + 64 * t) (ok := true) (ix := ix) hx hm hg hk ht (by unfold scalK; rw [hkt]) hz (by rw [hn, he]; exact findL_ents hkt n l c)
  refine .stepP hI h ?_
  unfold look Mv.has at k
  by_cases e : index l n < 0
  · rw [if_pos e, show decide (index l n ≥ 0) = false by simp; omega] at k
    rw [if_pos e]; exact k
  · rw [if_neg e, show decide (index l n ≥ 0) = true by simp; omega] at k
    rw [if_neg e]; exact k
theorem GL.mapPut (hI : InlM I) {tt kt et : TypeId} {x ix y : Operand} {b g : Nat} {bx : Box} {c n v : Int} {l : List Int} (ht : P.underlying tt = some (.map kt et)) (hkt : P.underlying kt = some (.int .i64)) (hx : evalO ts x = .mref b g) (hm : m b = some bx) (hg : bx.gen = g) (hf : bx.frz = false) (hk : bx.kind = .mp) (he : bx.es = ents c l) (hn : evalO ts ix = .int .i64 n) (hy : evalO ts y = .int .i64 v)
    (h0 : index l n < 0) (hv : v = c + l.length) (k : GL P I nb ops K d r (i + 1) ((i, [b], [b]) :: acc) ⟨ts, updM m b ⟨g, false, .mp, bx.sz, ents c (l ++ [n])⟩⟩) : GL P I nb ops K d (⟨none, .mapUpdate tt x ix y, ty, pos, af, none⟩ :: r) i acc ⟨ts, m⟩ := by
  have h := OpR.mapUpdate (d := nb + 64 * 4000) (ix := ix) (y := y) hx hm hg hk hf ht (by unfold scalK; rw [hkt]) (by rw [hn]; rfl) (by rw [hn, he]; exact findL_ents hkt n l c) (by rw [hy]; rfl)
  refine .stepN hI h (by simp [hf]) ?_
  rw [hn, hy, he, setL_ents hkt n l c v h0 hv]
  simp only [effM, Wn, List.map]
  rw [hg, hf, hk]
  exact k
end
end Go.Proofs.Ytpepcfombibpeaa.Mv
