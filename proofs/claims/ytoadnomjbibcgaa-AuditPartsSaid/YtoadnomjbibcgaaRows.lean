/-
  No cell of these rows narrows 'for every input' (looked for: loops, veiled, ifaces, maps, wideKeys, modest, calm, conditions, laid).
  DERIVED. THE GIVEN ROWS OF THIS SEAT. 5 by the template 'for every input the law returns true; each argument reads behind the call as it read before'; 0 by the template 'total and deterministic' (their statements: YtoadnomjbibcgaaTotals.lean).
  GIVEN WITH THE SEED: the statements are not yours to turn. If you find one false, say at which input.
  Laid BY PROGRAM, IN A SANDBOX (cutbox-rows.mjs): the forced cells as the released guide's own fill.sh prints them over the translation d6a65ba26325b2d5… (all of the seat's roots in one cut). By AI agents, Wed Nov 11 2026. No macro, syntax, notation, axiom, sorry.
-/
import Derived.Test.YtoadnomjbibcgaaChecked
import GoSem.Claim
import GoSem.ClaimJoined
import GoSem.ClaimMapViews
import Derived.JoinedTies
import Derived.KernelRfl
namespace Go.Proofs.Ytoadnomjbibcgaa
/- THE CELL 'sum', in the pinned program and in every row, IS THE sha256 OF THE DUMP (.gsa) THAT YtoadnomjbibcgaaProg.lean LOADS. Nothing in Lean hashes anything: it is a label: what it is worth is what the hold of that sum in a sandbox is worth. -/
noncomputable def Try.pinned : Pinned := { name := "ytoadnomjbibcgaa", sum := "d6a65ba26325b2d5ec012634f69cdb0e726e498f83cd7e654e8302c44ba9d884", checked := Try.checked }
namespace Rows
def none {H : Type} : Left H := { results := [], args := [] }

/-- 'draymanlaw08.PlanParts': WHATEVER THE INPUT: true; the input reads as it did. -/
def planPartsSpec : ChangeSpec := { name := "planParts", fn := fun _ => fun
  | [d1, d2, d3] => { results := [.lit (.bool true)], args := [d1, d2, d3] }
  | _ => none }
def planPartsRow : OpenClaim := { program := "ytoadnomjbibcgaa", sum := "d6a65ba26325b2d5ec012634f69cdb0e726e498f83cd7e654e8302c44ba9d884", func := "drayman/draymanlaw08.PlanParts", spec := "planParts", unfollowed := true, recurses := true, plainKeys := false, apart := false }
def PlanPartsSaid : Prop := planPartsRow.holds Try.pinned (OpenSpec.ofChange planPartsSpec)

/-- ITS FALSE NEIGHBOUR: 'it returns false'. Refute it at one input. -/
def planPartsWrong : ChangeSpec := { name := "planParts", fn := fun _ => fun
  | [d1, d2, d3] => { results := [.lit (.bool false)], args := [d1, d2, d3] }
  | _ => none }
def PlanPartsWrongFalsely : Prop := planPartsRow.holds Try.pinned (OpenSpec.ofChange planPartsWrong)

/-- 'draymanlaw10.SeenStill': WHATEVER THE INPUT: true; the input reads as it did. -/
def seenStillSpec : ChangeSpec := { name := "seenStill", fn := fun _ => fun
  | [d1, d2, d3, d4] => { results := [.lit (.bool true)], args := [d1, d2, d3, d4] }
  | _ => none }
def seenStillRow : OpenClaim := { program := "ytoadnomjbibcgaa", sum := "d6a65ba26325b2d5ec012634f69cdb0e726e498f83cd7e654e8302c44ba9d884", func := "drayman/draymanlaw10.SeenStill", spec := "seenStill", unfollowed := true, recurses := true, plainKeys := false, apart := false }
def SeenStillSaid : Prop := seenStillRow.holds Try.pinned (OpenSpec.ofChange seenStillSpec)

/-- ITS FALSE NEIGHBOUR: 'it returns false'. Refute it at one input. -/
def seenStillWrong : ChangeSpec := { name := "seenStill", fn := fun _ => fun
  | [d1, d2, d3, d4] => { results := [.lit (.bool false)], args := [d1, d2, d3, d4] }
  | _ => none }
def SeenStillWrongFalsely : Prop := seenStillRow.holds Try.pinned (OpenSpec.ofChange seenStillWrong)

/-- 'draymanlaw11.CertPlans': WHATEVER THE INPUT: true; the input reads as it did. -/
def certPlansSpec : ChangeSpec := { name := "certPlans", fn := fun _ => fun
  | [d1, d2, d3, d4] => { results := [.lit (.bool true)], args := [d1, d2, d3, d4] }
  | _ => none }
def certPlansRow : OpenClaim := { program := "ytoadnomjbibcgaa", sum := "d6a65ba26325b2d5ec012634f69cdb0e726e498f83cd7e654e8302c44ba9d884", func := "drayman/draymanlaw11.CertPlans", spec := "certPlans", unfollowed := true, recurses := true, plainKeys := false, apart := false }
def CertPlansSaid : Prop := certPlansRow.holds Try.pinned (OpenSpec.ofChange certPlansSpec)

/-- ITS FALSE NEIGHBOUR: 'it returns false'. Refute it at one input. -/
def certPlansWrong : ChangeSpec := { name := "certPlans", fn := fun _ => fun
  | [d1, d2, d3, d4] => { results := [.lit (.bool false)], args := [d1, d2, d3, d4] }
  | _ => none }
def CertPlansWrongFalsely : Prop := certPlansRow.holds Try.pinned (OpenSpec.ofChange certPlansWrong)

/-- 'draymanlaw23.AuditParts': WHATEVER THE INPUT: true; the input reads as it did. -/
def auditPartsSpec : ChangeSpec := { name := "auditParts", fn := fun _ => fun
  | [d1, d2, d3] => { results := [.lit (.bool true)], args := [d1, d2, d3] }
  | _ => none }
def auditPartsRow : OpenClaim := { program := "ytoadnomjbibcgaa", sum := "d6a65ba26325b2d5ec012634f69cdb0e726e498f83cd7e654e8302c44ba9d884", func := "drayman/draymanlaw23.AuditParts", spec := "auditParts", unfollowed := true, recurses := true, plainKeys := false, apart := false }
def AuditPartsSaid : Prop := auditPartsRow.holds Try.pinned (OpenSpec.ofChange auditPartsSpec)

/-- ITS FALSE NEIGHBOUR: 'it returns false'. Refute it at one input. -/
def auditPartsWrong : ChangeSpec := { name := "auditParts", fn := fun _ => fun
  | [d1, d2, d3] => { results := [.lit (.bool false)], args := [d1, d2, d3] }
  | _ => none }
def AuditPartsWrongFalsely : Prop := auditPartsRow.holds Try.pinned (OpenSpec.ofChange auditPartsWrong)

/-- 'draymanlaw23.AuditFinds': WHATEVER THE INPUT: true; the input reads as it did. -/
def auditFindsSpec : ChangeSpec := { name := "auditFinds", fn := fun _ => fun
  | [d1, d2, d3, d4] => { results := [.lit (.bool true)], args := [d1, d2, d3, d4] }
  | _ => none }
def auditFindsRow : OpenClaim := { program := "ytoadnomjbibcgaa", sum := "d6a65ba26325b2d5ec012634f69cdb0e726e498f83cd7e654e8302c44ba9d884", func := "drayman/draymanlaw23.AuditFinds", spec := "auditFinds", unfollowed := true, recurses := true, plainKeys := false, apart := false }
def AuditFindsSaid : Prop := auditFindsRow.holds Try.pinned (OpenSpec.ofChange auditFindsSpec)

/-- ITS FALSE NEIGHBOUR: 'it returns false'. Refute it at one input. -/
def auditFindsWrong : ChangeSpec := { name := "auditFinds", fn := fun _ => fun
  | [d1, d2, d3, d4] => { results := [.lit (.bool false)], args := [d1, d2, d3, d4] }
  | _ => none }
def AuditFindsWrongFalsely : Prop := auditFindsRow.holds Try.pinned (OpenSpec.ofChange auditFindsWrong)

/- THE SECOND FORM. 'bulk': how many values and letters a reading holds, each counted each time it is reached (what is shared counts as often as it is met; a slice's spare places count too). A statement '..UptoSaid' is the law's where the arguments, and the package variables that the reading takes, are together of bulk at most 1048576: NARROWER than '..Said'. Prove '..Said' where nothing that the law and all that it calls make is longer than what came in: it says more and counts as full. Else prove '..UptoSaid'. A law counts once. -/
mutual
def uptoBulk {H : Type} : DataW H → Nat
  | .lit (.string bytes) => bytes.length + 1
  | .lit _ => 1
  | .nil => 1
  | .ptr d => uptoBulk d + 1
  | .slice elems spare => uptoBulkAll elems + uptoBulkAll spare + 1
  | .agg parts => uptoBulkAll parts + 1
  | .iface _ d => uptoBulk d + 1
  | .map entries => uptoBulkEntries entries + 1
  | .held _ => 1
def uptoBulkAll {H : Type} : List (DataW H) → Nat
  | [] => 0
  | d :: r => uptoBulk d + uptoBulkAll r
def uptoBulkEntries {H : Type} : List (Lit × DataW H) → Nat
  | [] => 0
  | x :: r => uptoBulkEntry x + uptoBulkEntries r
def uptoBulkEntry {H : Type} : Lit × DataW H → Nat
  | (.string bytes, d) => bytes.length + uptoBulk d + 1
  | (_, d) => uptoBulk d + 1
 end
def uptoSmall : (H : Type) → List (DataW H) → Bool := fun _ ds => decide (uptoBulkAll ds ≤ 1048576)
def OpenSpec.upto (s : _root_.Go.ChangeSpec) : _root_.Go.OpenSpec := { _root_.Go.OpenSpec.ofChange s with cond := some uptoSmall }

/-- 'draymanlaw08.PlanParts', WHERE WHAT IT READS IS OF BULK AT MOST 1048576: true; the input reads as it did. -/
def planPartsUptoRow : OpenClaim := { program := "ytoadnomjbibcgaa", sum := "d6a65ba26325b2d5ec012634f69cdb0e726e498f83cd7e654e8302c44ba9d884", func := "drayman/draymanlaw08.PlanParts", spec := "planParts", unfollowed := true, recurses := true, plainKeys := false, apart := false, narrowed := true }
def PlanPartsUptoSaid : Prop := planPartsUptoRow.holds Try.pinned (OpenSpec.upto planPartsSpec)

/-- 'draymanlaw10.SeenStill', WHERE WHAT IT READS IS OF BULK AT MOST 1048576: true; the input reads as it did. -/
def seenStillUptoRow : OpenClaim := { program := "ytoadnomjbibcgaa", sum := "d6a65ba26325b2d5ec012634f69cdb0e726e498f83cd7e654e8302c44ba9d884", func := "drayman/draymanlaw10.SeenStill", spec := "seenStill", unfollowed := true, recurses := true, plainKeys := false, apart := false, narrowed := true }
def SeenStillUptoSaid : Prop := seenStillUptoRow.holds Try.pinned (OpenSpec.upto seenStillSpec)

/-- 'draymanlaw11.CertPlans', WHERE WHAT IT READS IS OF BULK AT MOST 1048576: true; the input reads as it did. -/
def certPlansUptoRow : OpenClaim := { program := "ytoadnomjbibcgaa", sum := "d6a65ba26325b2d5ec012634f69cdb0e726e498f83cd7e654e8302c44ba9d884", func := "drayman/draymanlaw11.CertPlans", spec := "certPlans", unfollowed := true, recurses := true, plainKeys := false, apart := false, narrowed := true }
def CertPlansUptoSaid : Prop := certPlansUptoRow.holds Try.pinned (OpenSpec.upto certPlansSpec)

/-- 'draymanlaw23.AuditParts', WHERE WHAT IT READS IS OF BULK AT MOST 1048576: true; the input reads as it did. -/
def auditPartsUptoRow : OpenClaim := { program := "ytoadnomjbibcgaa", sum := "d6a65ba26325b2d5ec012634f69cdb0e726e498f83cd7e654e8302c44ba9d884", func := "drayman/draymanlaw23.AuditParts", spec := "auditParts", unfollowed := true, recurses := true, plainKeys := false, apart := false, narrowed := true }
def AuditPartsUptoSaid : Prop := auditPartsUptoRow.holds Try.pinned (OpenSpec.upto auditPartsSpec)

/-- 'draymanlaw23.AuditFinds', WHERE WHAT IT READS IS OF BULK AT MOST 1048576: true; the input reads as it did. -/
def auditFindsUptoRow : OpenClaim := { program := "ytoadnomjbibcgaa", sum := "d6a65ba26325b2d5ec012634f69cdb0e726e498f83cd7e654e8302c44ba9d884", func := "drayman/draymanlaw23.AuditFinds", spec := "auditFinds", unfollowed := true, recurses := true, plainKeys := false, apart := false, narrowed := true }
def AuditFindsUptoSaid : Prop := auditFindsUptoRow.holds Try.pinned (OpenSpec.upto auditFindsSpec)

end Rows
end Go.Proofs.Ytoadnomjbibcgaa
