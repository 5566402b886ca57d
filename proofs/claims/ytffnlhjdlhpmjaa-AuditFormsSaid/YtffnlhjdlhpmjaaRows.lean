/-
  No cell of these rows narrows 'for every input' (looked for: loops, veiled, ifaces, maps, wideKeys, modest, calm, conditions, laid).
  DERIVED. THE GIVEN ROWS OF THIS SEAT. 9 by the template 'for every input the law returns true; each argument reads behind the call as it read before'; 0 by the template 'total and deterministic' (their statements: YtffnlhjdlhpmjaaTotals.lean).
  GIVEN WITH THE SEED: the statements are not yours to turn. If you find one false, say at which input.
  Laid BY PROGRAM, IN A SANDBOX (cutbox-rows.mjs): the forced cells as the released guide's own fill.sh prints them over the translation a80e47ffe2bc68a0… (all of the seat's roots in one cut). By AI agents, Wed Nov 11 2026. No macro, syntax, notation, axiom, sorry.
-/
import Derived.Test.YtffnlhjdlhpmjaaChecked
import GoSem.Claim
import GoSem.ClaimJoined
import GoSem.ClaimMapViews
import Derived.JoinedTies
import Derived.KernelRfl
namespace Go.Proofs.Ytffnlhjdlhpmjaa
/- THE CELL 'sum', in the pinned program and in every row, IS THE sha256 OF THE DUMP (.gsa) THAT YtffnlhjdlhpmjaaProg.lean LOADS. Nothing in Lean hashes anything: it is a label: what it is worth is what the hold of that sum in a sandbox is worth. -/
noncomputable def Try.pinned : Pinned := { name := "ytffnlhjdlhpmjaa", sum := "a80e47ffe2bc68a0586596b348c0df987f006f41fc66befc3e080f5c6dfb6ed4", checked := Try.checked }
namespace Rows
def none {H : Type} : Left H := { results := [], args := [] }

/-- 'draymanlaw14.StackHolds': WHATEVER THE INPUT: true; the input reads as it did. -/
def stackHoldsSpec : ChangeSpec := { name := "stackHolds", fn := fun _ => fun
  | [d1, d2, d3] => { results := [.lit (.bool true)], args := [d1, d2, d3] }
  | _ => none }
def stackHoldsRow : OpenClaim := { program := "ytffnlhjdlhpmjaa", sum := "a80e47ffe2bc68a0586596b348c0df987f006f41fc66befc3e080f5c6dfb6ed4", func := "drayman/draymanlaw14.StackHolds", spec := "stackHolds", inPlace := ["maps.clone"], unfollowed := true, recurses := true, plainKeys := false, apart := false }
def StackHoldsSaid : Prop := stackHoldsRow.holds Try.pinned (OpenSpec.ofChange stackHoldsSpec)

/-- ITS FALSE NEIGHBOUR: 'it returns false'. Refute it at one input. -/
def stackHoldsWrong : ChangeSpec := { name := "stackHolds", fn := fun _ => fun
  | [d1, d2, d3] => { results := [.lit (.bool false)], args := [d1, d2, d3] }
  | _ => none }
def StackHoldsWrongFalsely : Prop := stackHoldsRow.holds Try.pinned (OpenSpec.ofChange stackHoldsWrong)

/-- 'draymanlaw07.DeltaMemory': WHATEVER THE INPUT: true; the input reads as it did. -/
def deltaMemorySpec : ChangeSpec := { name := "deltaMemory", fn := fun _ => fun
  | [d1, d2, d3] => { results := [.lit (.bool true)], args := [d1, d2, d3] }
  | _ => none }
def deltaMemoryRow : OpenClaim := { program := "ytffnlhjdlhpmjaa", sum := "a80e47ffe2bc68a0586596b348c0df987f006f41fc66befc3e080f5c6dfb6ed4", func := "drayman/draymanlaw07.DeltaMemory", spec := "deltaMemory", unfollowed := true, recurses := true, plainKeys := false, apart := false }
def DeltaMemorySaid : Prop := deltaMemoryRow.holds Try.pinned (OpenSpec.ofChange deltaMemorySpec)

/-- ITS FALSE NEIGHBOUR: 'it returns false'. Refute it at one input. -/
def deltaMemoryWrong : ChangeSpec := { name := "deltaMemory", fn := fun _ => fun
  | [d1, d2, d3] => { results := [.lit (.bool false)], args := [d1, d2, d3] }
  | _ => none }
def DeltaMemoryWrongFalsely : Prop := deltaMemoryRow.holds Try.pinned (OpenSpec.ofChange deltaMemoryWrong)

/-- 'draymanlaw07.DeltaMoves': WHATEVER THE INPUT: true; the input reads as it did. -/
def deltaMovesSpec : ChangeSpec := { name := "deltaMoves", fn := fun _ => fun
  | [d1, d2, d3] => { results := [.lit (.bool true)], args := [d1, d2, d3] }
  | _ => none }
def deltaMovesRow : OpenClaim := { program := "ytffnlhjdlhpmjaa", sum := "a80e47ffe2bc68a0586596b348c0df987f006f41fc66befc3e080f5c6dfb6ed4", func := "drayman/draymanlaw07.DeltaMoves", spec := "deltaMoves", unfollowed := true, recurses := true, plainKeys := false, apart := false }
def DeltaMovesSaid : Prop := deltaMovesRow.holds Try.pinned (OpenSpec.ofChange deltaMovesSpec)

/-- ITS FALSE NEIGHBOUR: 'it returns false'. Refute it at one input. -/
def deltaMovesWrong : ChangeSpec := { name := "deltaMoves", fn := fun _ => fun
  | [d1, d2, d3] => { results := [.lit (.bool false)], args := [d1, d2, d3] }
  | _ => none }
def DeltaMovesWrongFalsely : Prop := deltaMovesRow.holds Try.pinned (OpenSpec.ofChange deltaMovesWrong)

/-- 'draymanlaw07.DeltaForms': WHATEVER THE INPUT: true; the input reads as it did. -/
def deltaFormsSpec : ChangeSpec := { name := "deltaForms", fn := fun _ => fun
  | [d] => { results := [.lit (.bool true)], args := [d] }
  | _ => none }
def deltaFormsRow : OpenClaim := { program := "ytffnlhjdlhpmjaa", sum := "a80e47ffe2bc68a0586596b348c0df987f006f41fc66befc3e080f5c6dfb6ed4", func := "drayman/draymanlaw07.DeltaForms", spec := "deltaForms", unfollowed := true, recurses := true, plainKeys := false, apart := false }
def DeltaFormsSaid : Prop := deltaFormsRow.holds Try.pinned (OpenSpec.ofChange deltaFormsSpec)

/-- ITS FALSE NEIGHBOUR: 'it returns false'. Refute it at one input. -/
def deltaFormsWrong : ChangeSpec := { name := "deltaForms", fn := fun _ => fun
  | [d] => { results := [.lit (.bool false)], args := [d] }
  | _ => none }
def DeltaFormsWrongFalsely : Prop := deltaFormsRow.holds Try.pinned (OpenSpec.ofChange deltaFormsWrong)

/-- 'draymanlaw23.AuditForms': WHATEVER THE INPUT: true; the input reads as it did. -/
def auditFormsSpec : ChangeSpec := { name := "auditForms", fn := fun _ => fun
  | [d] => { results := [.lit (.bool true)], args := [d] }
  | _ => none }
def auditFormsRow : OpenClaim := { program := "ytffnlhjdlhpmjaa", sum := "a80e47ffe2bc68a0586596b348c0df987f006f41fc66befc3e080f5c6dfb6ed4", func := "drayman/draymanlaw23.AuditForms", spec := "auditForms", unfollowed := true, recurses := true, plainKeys := false, apart := false }
def AuditFormsSaid : Prop := auditFormsRow.holds Try.pinned (OpenSpec.ofChange auditFormsSpec)

/-- ITS FALSE NEIGHBOUR: 'it returns false'. Refute it at one input. -/
def auditFormsWrong : ChangeSpec := { name := "auditForms", fn := fun _ => fun
  | [d] => { results := [.lit (.bool false)], args := [d] }
  | _ => none }
def AuditFormsWrongFalsely : Prop := auditFormsRow.holds Try.pinned (OpenSpec.ofChange auditFormsWrong)

/-- 'draymanlaw09.HoldForms': WHATEVER THE INPUT: true; the input reads as it did. -/
def holdFormsSpec : ChangeSpec := { name := "holdForms", fn := fun _ => fun
  | [d] => { results := [.lit (.bool true)], args := [d] }
  | _ => none }
def holdFormsRow : OpenClaim := { program := "ytffnlhjdlhpmjaa", sum := "a80e47ffe2bc68a0586596b348c0df987f006f41fc66befc3e080f5c6dfb6ed4", func := "drayman/draymanlaw09.HoldForms", spec := "holdForms", unfollowed := true, recurses := true, plainKeys := false, apart := false }
def HoldFormsSaid : Prop := holdFormsRow.holds Try.pinned (OpenSpec.ofChange holdFormsSpec)

/-- ITS FALSE NEIGHBOUR: 'it returns false'. Refute it at one input. -/
def holdFormsWrong : ChangeSpec := { name := "holdForms", fn := fun _ => fun
  | [d] => { results := [.lit (.bool false)], args := [d] }
  | _ => none }
def HoldFormsWrongFalsely : Prop := holdFormsRow.holds Try.pinned (OpenSpec.ofChange holdFormsWrong)

/-- 'draymanlaw08.PlanForms': WHATEVER THE INPUT: true; the input reads as it did. -/
def planFormsSpec : ChangeSpec := { name := "planForms", fn := fun _ => fun
  | [d] => { results := [.lit (.bool true)], args := [d] }
  | _ => none }
def planFormsRow : OpenClaim := { program := "ytffnlhjdlhpmjaa", sum := "a80e47ffe2bc68a0586596b348c0df987f006f41fc66befc3e080f5c6dfb6ed4", func := "drayman/draymanlaw08.PlanForms", spec := "planForms", unfollowed := true, recurses := true, plainKeys := false, apart := false }
def PlanFormsSaid : Prop := planFormsRow.holds Try.pinned (OpenSpec.ofChange planFormsSpec)

/-- ITS FALSE NEIGHBOUR: 'it returns false'. Refute it at one input. -/
def planFormsWrong : ChangeSpec := { name := "planForms", fn := fun _ => fun
  | [d] => { results := [.lit (.bool false)], args := [d] }
  | _ => none }
def PlanFormsWrongFalsely : Prop := planFormsRow.holds Try.pinned (OpenSpec.ofChange planFormsWrong)

/-- 'draymanlaw14.StackTouched': WHATEVER THE INPUT: true; the input reads as it did. -/
def stackTouchedSpec : ChangeSpec := { name := "stackTouched", fn := fun _ => fun
  | [d] => { results := [.lit (.bool true)], args := [d] }
  | _ => none }
def stackTouchedRow : OpenClaim := { program := "ytffnlhjdlhpmjaa", sum := "a80e47ffe2bc68a0586596b348c0df987f006f41fc66befc3e080f5c6dfb6ed4", func := "drayman/draymanlaw14.StackTouched", spec := "stackTouched", inPlace := ["maps.clone"], unfollowed := true, recurses := true, plainKeys := false, apart := false }
def StackTouchedSaid : Prop := stackTouchedRow.holds Try.pinned (OpenSpec.ofChange stackTouchedSpec)

/-- ITS FALSE NEIGHBOUR: 'it returns false'. Refute it at one input. -/
def stackTouchedWrong : ChangeSpec := { name := "stackTouched", fn := fun _ => fun
  | [d] => { results := [.lit (.bool false)], args := [d] }
  | _ => none }
def StackTouchedWrongFalsely : Prop := stackTouchedRow.holds Try.pinned (OpenSpec.ofChange stackTouchedWrong)

/-- 'draymanlaw14.StackForms': WHATEVER THE INPUT: true; the input reads as it did. -/
def stackFormsSpec : ChangeSpec := { name := "stackForms", fn := fun _ => fun
  | [d] => { results := [.lit (.bool true)], args := [d] }
  | _ => none }
def stackFormsRow : OpenClaim := { program := "ytffnlhjdlhpmjaa", sum := "a80e47ffe2bc68a0586596b348c0df987f006f41fc66befc3e080f5c6dfb6ed4", func := "drayman/draymanlaw14.StackForms", spec := "stackForms", inPlace := ["maps.clone"], unfollowed := true, recurses := true, plainKeys := false, apart := false }
def StackFormsSaid : Prop := stackFormsRow.holds Try.pinned (OpenSpec.ofChange stackFormsSpec)

/-- ITS FALSE NEIGHBOUR: 'it returns false'. Refute it at one input. -/
def stackFormsWrong : ChangeSpec := { name := "stackForms", fn := fun _ => fun
  | [d] => { results := [.lit (.bool false)], args := [d] }
  | _ => none }
def StackFormsWrongFalsely : Prop := stackFormsRow.holds Try.pinned (OpenSpec.ofChange stackFormsWrong)

/- THE SECOND FORM. 'bulk': how many values and letters a reading holds, each counted each time it is reached (what is shared counts as often as it is met; a slice's spare places count too). A statement '..UptoSaid' is the law's where the arguments, and the package variables that the reading takes, are together of bulk at most 1048576: NARROWER than '..Said'. Prove '..Said' where nothing that the law and all that it calls make is longer than what came in: it says more and counts as full. Else prove '..UptoSaid'. A law counts once. -/
mutual
def uptoBulk {H : Type} : DataW H → Nat
  | .lit (.string bytes) => bytes.length + 1
  | .lit _ => 1
  | .nil => 1
  | .ptr d => uptoBulk d + 1
  | .slice elems spare => uptoBulkAll elems + uptoBulkAll spare + 1
  | .agg parts => uptoBulkAll parts + 1
  | .iface _ d => uptoBulk d + 1
  | .map entries => uptoBulkEntries entries + 1
  | .held _ => 1
def uptoBulkAll {H : Type} : List (DataW H) → Nat
  | [] => 0
  | d :: r => uptoBulk d + uptoBulkAll r
def uptoBulkEntries {H : Type} : List (Lit × DataW H) → Nat
  | [] => 0
  | x :: r => uptoBulkEntry x + uptoBulkEntries r
def uptoBulkEntry {H : Type} : Lit × DataW H → Nat
  | (.string bytes, d) => bytes.length + uptoBulk d + 1
  | (_, d) => uptoBulk d + 1
 end
def uptoSmall : (H : Type) → List (DataW H) → Bool := fun _ ds => decide (uptoBulkAll ds ≤ 1048576)
def OpenSpec.upto (s : _root_.Go.ChangeSpec) : _root_.Go.OpenSpec := { _root_.Go.OpenSpec.ofChange s with cond := some uptoSmall }

/-- 'draymanlaw14.StackHolds', WHERE WHAT IT READS IS OF BULK AT MOST 1048576: true; the input reads as it did. -/
def stackHoldsUptoRow : OpenClaim := { program := "ytffnlhjdlhpmjaa", sum := "a80e47ffe2bc68a0586596b348c0df987f006f41fc66befc3e080f5c6dfb6ed4", func := "drayman/draymanlaw14.StackHolds", spec := "stackHolds", inPlace := ["maps.clone"], unfollowed := true, recurses := true, plainKeys := false, apart := false, narrowed := true }
def StackHoldsUptoSaid : Prop := stackHoldsUptoRow.holds Try.pinned (OpenSpec.upto stackHoldsSpec)

/-- 'draymanlaw07.DeltaMemory', WHERE WHAT IT READS IS OF BULK AT MOST 1048576: true; the input reads as it did. -/
def deltaMemoryUptoRow : OpenClaim := { program := "ytffnlhjdlhpmjaa", sum := "a80e47ffe2bc68a0586596b348c0df987f006f41fc66befc3e080f5c6dfb6ed4", func := "drayman/draymanlaw07.DeltaMemory", spec := "deltaMemory", unfollowed := true, recurses := true, plainKeys := false, apart := false, narrowed := true }
def DeltaMemoryUptoSaid : Prop := deltaMemoryUptoRow.holds Try.pinned (OpenSpec.upto deltaMemorySpec)

/-- 'draymanlaw07.DeltaMoves', WHERE WHAT IT READS IS OF BULK AT MOST 1048576: true; the input reads as it did. -/
def deltaMovesUptoRow : OpenClaim := { program := "ytffnlhjdlhpmjaa", sum := "a80e47ffe2bc68a0586596b348c0df987f006f41fc66befc3e080f5c6dfb6ed4", func := "drayman/draymanlaw07.DeltaMoves", spec := "deltaMoves", unfollowed := true, recurses := true, plainKeys := false, apart := false, narrowed := true }
def DeltaMovesUptoSaid : Prop := deltaMovesUptoRow.holds Try.pinned (OpenSpec.upto deltaMovesSpec)

/-- 'draymanlaw07.DeltaForms', WHERE WHAT IT READS IS OF BULK AT MOST 1048576: true; the input reads as it did. -/
def deltaFormsUptoRow : OpenClaim := { program := "ytffnlhjdlhpmjaa", sum := "a80e47ffe2bc68a0586596b348c0df987f006f41fc66befc3e080f5c6dfb6ed4", func := "drayman/draymanlaw07.DeltaForms", spec := "deltaForms", unfollowed := true, recurses := true, plainKeys := false, apart := false, narrowed := true }
def DeltaFormsUptoSaid : Prop := deltaFormsUptoRow.holds Try.pinned (OpenSpec.upto deltaFormsSpec)

/-- 'draymanlaw23.AuditForms', WHERE WHAT IT READS IS OF BULK AT MOST 1048576: true; the input reads as it did. -/
def auditFormsUptoRow : OpenClaim := { program := "ytffnlhjdlhpmjaa", sum := "a80e47ffe2bc68a0586596b348c0df987f006f41fc66befc3e080f5c6dfb6ed4", func := "drayman/draymanlaw23.AuditForms", spec := "auditForms", unfollowed := true, recurses := true, plainKeys := false, apart := false, narrowed := true }
def AuditFormsUptoSaid : Prop := auditFormsUptoRow.holds Try.pinned (OpenSpec.upto auditFormsSpec)

/-- 'draymanlaw09.HoldForms', WHERE WHAT IT READS IS OF BULK AT MOST 1048576: true; the input reads as it did. -/
def holdFormsUptoRow : OpenClaim := { program := "ytffnlhjdlhpmjaa", sum := "a80e47ffe2bc68a0586596b348c0df987f006f41fc66befc3e080f5c6dfb6ed4", func := "drayman/draymanlaw09.HoldForms", spec := "holdForms", unfollowed := true, recurses := true, plainKeys := false, apart := false, narrowed := true }
def HoldFormsUptoSaid : Prop := holdFormsUptoRow.holds Try.pinned (OpenSpec.upto holdFormsSpec)

/-- 'draymanlaw08.PlanForms', WHERE WHAT IT READS IS OF BULK AT MOST 1048576: true; the input reads as it did. -/
def planFormsUptoRow : OpenClaim := { program := "ytffnlhjdlhpmjaa", sum := "a80e47ffe2bc68a0586596b348c0df987f006f41fc66befc3e080f5c6dfb6ed4", func := "drayman/draymanlaw08.PlanForms", spec := "planForms", unfollowed := true, recurses := true, plainKeys := false, apart := false, narrowed := true }
def PlanFormsUptoSaid : Prop := planFormsUptoRow.holds Try.pinned (OpenSpec.upto planFormsSpec)

/-- 'draymanlaw14.StackTouched', WHERE WHAT IT READS IS OF BULK AT MOST 1048576: true; the input reads as it did. -/
def stackTouchedUptoRow : OpenClaim := { program := "ytffnlhjdlhpmjaa", sum := "a80e47ffe2bc68a0586596b348c0df987f006f41fc66befc3e080f5c6dfb6ed4", func := "drayman/draymanlaw14.StackTouched", spec := "stackTouched", inPlace := ["maps.clone"], unfollowed := true, recurses := true, plainKeys := false, apart := false, narrowed := true }
def StackTouchedUptoSaid : Prop := stackTouchedUptoRow.holds Try.pinned (OpenSpec.upto stackTouchedSpec)

/-- 'draymanlaw14.StackForms', WHERE WHAT IT READS IS OF BULK AT MOST 1048576: true; the input reads as it did. -/
def stackFormsUptoRow : OpenClaim := { program := "ytffnlhjdlhpmjaa", sum := "a80e47ffe2bc68a0586596b348c0df987f006f41fc66befc3e080f5c6dfb6ed4", func := "drayman/draymanlaw14.StackForms", spec := "stackForms", inPlace := ["maps.clone"], unfollowed := true, recurses := true, plainKeys := false, apart := false, narrowed := true }
def StackFormsUptoSaid : Prop := stackFormsUptoRow.holds Try.pinned (OpenSpec.upto stackFormsSpec)

end Rows
end Go.Proofs.Ytffnlhjdlhpmjaa
