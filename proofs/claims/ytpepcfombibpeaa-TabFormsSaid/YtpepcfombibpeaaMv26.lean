/- From a function's contract to what a row asks of a call. -/
import Derived.Test.YtpepcfombibpeaaMv25
import Derived.Below
set_option linter.unusedVariables false
set_option linter.unusedSimpArgs false
namespace Go.Proofs.Ytpepcfombibpeaa.Mv
open Go.RowKit

theorem RelI.bool {w : World} {F : Nat → Prop} {v : Value} {b : Bool} {O : List Nat} (h : RelI w F v (.bool b) O) : v = .bool b := by
  cases h with
  | frz h => cases h; rfl

/-- A law that answers true: the call's answer, and nothing that was there has turned. -/
theorem law_walk {P : Program} {f : FuncId} {vs : Array Value} {args : List LV} {w : World} (h : CallsV P f args (.bool true)) (hr : RelF w (fun b => b < w.heap.size) (.agg vs) (.agg args)) :
    Calls P f vs w fun e w' => e = .returned (.bool true) ∧ Below w.heap.size w w' := by
  refine Calls.mono (h.2 w _ vs hr fun _ h => h) fun e w' he => ?_
  obtain ⟨v, res, F', O, rfl, hR, hext, -, -, -, q4, -, -⟩ := he
  subst hR
  rw [q4.bool]
  exact ⟨rfl, hext.os, hext.tape, hext.output, hext.size, fun k hk => hext.block k hk (by simp)⟩

theorem RelF.nil {w : World} {F : Nat → Prop} : RelF w F (.agg #[]) (.agg []) := .agg rfl fun i v l hv => by simp at hv
theorem RelF.cons {w : World} {F : Nat → Prop} {v : Value} {vs : List Value} {l : LV} {ls : List LV} (h : RelF w F v l) (hs : RelF w F (.agg vs.toArray) (.agg ls)) : RelF w F (.agg (v :: vs).toArray) (.agg (l :: ls)) := by
  obtain ⟨cs, e1, e2, e3⟩ := hs.cells
  injection e1 with e1
  subst e1
  refine .agg (by simp at e2 ⊢; exact e2) fun i u q hu hq => ?_
  cases i with
  | zero =>
    simp at hu hq
    subst hu hq
    exact h
  | succ i => exact e3 i u q (by simpa using hu) (by simpa using hq)
end Go.Proofs.Ytpepcfombibpeaa.Mv
