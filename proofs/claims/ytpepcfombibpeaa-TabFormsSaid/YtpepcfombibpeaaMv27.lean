/- Slices of integers that come in as a law's arguments. -/
import Derived.Test.YtpepcfombibpeaaMv26
import Derived.ChangeSlices
import Derived.DataReads
set_option linter.unusedVariables false
set_option linter.unusedSimpArgs false
namespace Go.Proofs.Ytpepcfombibpeaa.Mv
open Go.ChangeShapes Go.WideShapes Go.RowKit

/-- What is known of a slice of integers that came in. -/
structure Ints (z : List Int) : Prop where
  len : z.length ≤ maxLen
  num : ∀ n ∈ z, (Lit.int .i64 n).wf = true

theorem getD_mem_or {z : List Int} {i : Nat} (h : i < z.length) : z.getD i 0 ∈ z := by
  rw [List.getD_eq_getElem?_getD, List.getElem?_eq_getElem h]
  exact List.getElem_mem h

theorem ints_in {H : Type} {enc : TypeId × Value → H} {P : Program} {w : World} {base : Nat} {spare : Nat → Bool} {held : Bool} {t e : TypeId} {fuel : Nat} {a : Option Addr} {len cap : Nat} {x : DataW H × List MemPlace}
    (ht : P.underlying t = some (.slice e)) (he : P.underlying e = some (.int .i64)) (hc : P.cellsOf e = 1) (h : DataW.trod enc P w base spare held fuel t [.slice a len cap] = some x) :
    ∃ z, RelF w (fun b => b < w.heap.size) (.slice a len cap) (.sl (em ni z)) ∧ Ints z := by
  rcases open_ints ht he hc h with ⟨hcs, -⟩ | ⟨ad, l, c, zs, hcs, -, hl, hm, hz, -, hcell, hw⟩
  · injection hcs with h1
    injection h1 with h1 h2 h3
    subst h1 h2 h3
    exact ⟨[], .sl (blk := 0) (off := 0) (sz := 1) (fun _ _ => .int .i64 0) rfl (Nat.le_refl _) (fun h => absurd h (by omega)) (fun e he => by cases he) (fun i e c l he => by simp [em] at he) (fun i e c l he => by simp [em] at he), ⟨Nat.zero_le _, by simp⟩⟩
  · injection hcs with h1
    injection h1 with h1 h2 h3
    subst h1 h2 h3
    have hlz : len ≤ zs.length := by rw [hz]; split <;> omega
    have htl : (zs.take len).length = len := by simp; omega
    refine ⟨zs.take len, ?_, ⟨by omega, fun n hn => hw n (List.mem_of_mem_take hn)⟩⟩
    obtain ⟨b, o, s⟩ := ad
    by_cases h0 : 0 < len
    · have hc0 := hcell 0 (by omega)
      have hs : s = none := by
        have e0 : (⟨b, o, s⟩ : Addr).add 0 = ⟨b, o, s⟩ := by simp [Addr.add]
        rw [e0] at hc0
        exact World.cell?_spot hc0
      subst hs
      have hb : b < w.heap.size := by
        rw [add_plain] at hc0
        simp only [World.cell?] at hc0
        cases hq : w.heap[b]? with
        | none => rw [hq] at hc0; simp at hc0
        | some u => exact (Array.getElem?_eq_some_iff.1 hq).1
      refine .sl (blk := b) (off := o) (sz := 1) (fun i _ => .int .i64 (zs.getD i 0)) (by rw [em_len, htl]) hl (fun _ => ⟨rfl, hb⟩) (fun e he => by obtain ⟨n, -, rfl⟩ := List.mem_map.1 he; rfl) (fun i e c l he hq => ?_) fun i e c l he hq => ?_
      · have hi : i < len := by have := (List.getElem?_eq_some_iff.1 he).1; rw [em_len, htl] at this; exact this
        rw [em_get (by rw [htl]; exact hi)] at he
        injection he with he
        subst he
        have hc1 : c = 0 := by have := (List.getElem?_eq_some_iff.1 hq).1; simp [ni] at this; exact this
        subst hc1
        have := hcell i (by omega)
        rw [add_plain] at this
        simpa using this
      · have hi : i < len := by have := (List.getElem?_eq_some_iff.1 he).1; rw [em_len, htl] at this; exact this
        rw [em_get (by rw [htl]; exact hi)] at he
        injection he with he
        subst he
        have hc1 : c = 0 := by have := (List.getElem?_eq_some_iff.1 hq).1; simp [ni] at this; exact this
        subst hc1
        simp only [ni, List.getElem?_cons_zero, Option.some.injEq] at hq
        subst hq
        have : (zs.take len).getD i default = zs.getD i 0 := by
          simp [List.getElem?_take, hi]
        rw [this]
        exact .int _ _
    · have hl0 : len = 0 := by omega
      subst hl0
      exact .sl (blk := 0) (off := 0) (sz := 1) (fun _ _ => .int .i64 0) (by simp [em]) hl (fun h => absurd h (by omega)) (fun e he => by simp [em] at he) (fun i e c l he => by simp [em] at he) (fun i e c l he => by simp [em] at he)
end Go.Proofs.Ytpepcfombibpeaa.Mv
