/-
  No cell of these rows narrows 'for every input' (looked for: loops, veiled, ifaces, maps, wideKeys, modest, calm, conditions, laid).
  DERIVED. THE GIVEN ROWS OF THIS SEAT. 20 by the template 'for every input the law returns true; each argument reads behind the call as it read before'; 0 by the template 'total and deterministic' (their statements: YtpepcfombibpeaaTotals.lean).
  GIVEN WITH THE SEED: the statements are not yours to turn. If you find one false, say at which input.
  Laid BY PROGRAM, IN A SANDBOX (cutbox-rows.mjs): the forced cells as the released guide's own fill.sh prints them over the translation a4e46215a52719df… (all of the seat's roots in one cut). By AI agents, Wed Nov 11 2026. No macro, syntax, notation, axiom, sorry.
-/
import Derived.Test.YtpepcfombibpeaaChecked
import GoSem.Claim
import GoSem.ClaimJoined
import GoSem.ClaimMapViews
import Derived.JoinedTies
import Derived.KernelRfl
namespace Go.Proofs.Ytpepcfombibpeaa
/- THE CELL 'sum', in the pinned program and in every row, IS THE sha256 OF THE DUMP (.gsa) THAT YtpepcfombibpeaaProg.lean LOADS. Nothing in Lean hashes anything: it is a label: what it is worth is what the hold of that sum in a sandbox is worth. -/
noncomputable def Try.pinned : Pinned := { name := "ytpepcfombibpeaa", sum := "a4e46215a52719dfde3a1186507801955dbeb6ede2bda6f71a1e008986353d54", checked := Try.checked }
namespace Rows
def none {H : Type} : Left H := { results := [], args := [] }

/-- 'draymanlaw04.TripForms': WHATEVER THE INPUT: true; the input reads as it did. -/
def tripFormsSpec : ChangeSpec := { name := "tripForms", fn := fun _ => fun
  | [d] => { results := [.lit (.bool true)], args := [d] }
  | _ => none }
def tripFormsRow : OpenClaim := { program := "ytpepcfombibpeaa", sum := "a4e46215a52719dfde3a1186507801955dbeb6ede2bda6f71a1e008986353d54", func := "drayman/draymanlaw04.TripForms", spec := "tripForms", apart := false }
def TripFormsSaid : Prop := tripFormsRow.holds Try.pinned (OpenSpec.ofChange tripFormsSpec)

/-- ITS FALSE NEIGHBOUR: 'it returns false'. Refute it at one input. -/
def tripFormsWrong : ChangeSpec := { name := "tripForms", fn := fun _ => fun
  | [d] => { results := [.lit (.bool false)], args := [d] }
  | _ => none }
def TripFormsWrongFalsely : Prop := tripFormsRow.holds Try.pinned (OpenSpec.ofChange tripFormsWrong)

/-- 'draymanlaw04.TripBegins': WHATEVER THE INPUT: true; the input reads as it did. -/
def tripBeginsSpec : ChangeSpec := { name := "tripBegins", fn := fun _ => fun
  | [d1, d2, d3, d4] => { results := [.lit (.bool true)], args := [d1, d2, d3, d4] }
  | _ => none }
def tripBeginsRow : OpenClaim := { program := "ytpepcfombibpeaa", sum := "a4e46215a52719dfde3a1186507801955dbeb6ede2bda6f71a1e008986353d54", func := "drayman/draymanlaw04.TripBegins", spec := "tripBegins", unfollowed := true, recurses := true, apart := false }
def TripBeginsSaid : Prop := tripBeginsRow.holds Try.pinned (OpenSpec.ofChange tripBeginsSpec)

/-- ITS FALSE NEIGHBOUR: 'it returns false'. Refute it at one input. -/
def tripBeginsWrong : ChangeSpec := { name := "tripBegins", fn := fun _ => fun
  | [d1, d2, d3, d4] => { results := [.lit (.bool false)], args := [d1, d2, d3, d4] }
  | _ => none }
def TripBeginsWrongFalsely : Prop := tripBeginsRow.holds Try.pinned (OpenSpec.ofChange tripBeginsWrong)

/-- 'draymanlaw04.TripTells': WHATEVER THE INPUT: true; the input reads as it did. -/
def tripTellsSpec : ChangeSpec := { name := "tripTells", fn := fun _ => fun
  | [d1, d2, d3] => { results := [.lit (.bool true)], args := [d1, d2, d3] }
  | _ => none }
def tripTellsRow : OpenClaim := { program := "ytpepcfombibpeaa", sum := "a4e46215a52719dfde3a1186507801955dbeb6ede2bda6f71a1e008986353d54", func := "drayman/draymanlaw04.TripTells", spec := "tripTells", unfollowed := true, recurses := true, apart := false }
def TripTellsSaid : Prop := tripTellsRow.holds Try.pinned (OpenSpec.ofChange tripTellsSpec)

/-- ITS FALSE NEIGHBOUR: 'it returns false'. Refute it at one input. -/
def tripTellsWrong : ChangeSpec := { name := "tripTells", fn := fun _ => fun
  | [d1, d2, d3] => { results := [.lit (.bool false)], args := [d1, d2, d3] }
  | _ => none }
def TripTellsWrongFalsely : Prop := tripTellsRow.holds Try.pinned (OpenSpec.ofChange tripTellsWrong)

/-- 'draymanlaw04.TripWaits': WHATEVER THE INPUT: true; the input reads as it did. -/
def tripWaitsSpec : ChangeSpec := { name := "tripWaits", fn := fun _ => fun
  | [d1, d2, d3] => { results := [.lit (.bool true)], args := [d1, d2, d3] }
  | _ => none }
def tripWaitsRow : OpenClaim := { program := "ytpepcfombibpeaa", sum := "a4e46215a52719dfde3a1186507801955dbeb6ede2bda6f71a1e008986353d54", func := "drayman/draymanlaw04.TripWaits", spec := "tripWaits", unfollowed := true, recurses := true, apart := false }
def TripWaitsSaid : Prop := tripWaitsRow.holds Try.pinned (OpenSpec.ofChange tripWaitsSpec)

/-- ITS FALSE NEIGHBOUR: 'it returns false'. Refute it at one input. -/
def tripWaitsWrong : ChangeSpec := { name := "tripWaits", fn := fun _ => fun
  | [d1, d2, d3] => { results := [.lit (.bool false)], args := [d1, d2, d3] }
  | _ => none }
def TripWaitsWrongFalsely : Prop := tripWaitsRow.holds Try.pinned (OpenSpec.ofChange tripWaitsWrong)

/-- 'draymanlaw04.TripPairs': WHATEVER THE INPUT: true; the input reads as it did. -/
def tripPairsSpec : ChangeSpec := { name := "tripPairs", fn := fun _ => fun
  | [d1, d2, d3] => { results := [.lit (.bool true)], args := [d1, d2, d3] }
  | _ => none }
def tripPairsRow : OpenClaim := { program := "ytpepcfombibpeaa", sum := "a4e46215a52719dfde3a1186507801955dbeb6ede2bda6f71a1e008986353d54", func := "drayman/draymanlaw04.TripPairs", spec := "tripPairs", unfollowed := true, recurses := true, apart := false }
def TripPairsSaid : Prop := tripPairsRow.holds Try.pinned (OpenSpec.ofChange tripPairsSpec)

/-- ITS FALSE NEIGHBOUR: 'it returns false'. Refute it at one input. -/
def tripPairsWrong : ChangeSpec := { name := "tripPairs", fn := fun _ => fun
  | [d1, d2, d3] => { results := [.lit (.bool false)], args := [d1, d2, d3] }
  | _ => none }
def TripPairsWrongFalsely : Prop := tripPairsRow.holds Try.pinned (OpenSpec.ofChange tripPairsWrong)

/-- 'draymanlaw04.TripCost': WHATEVER THE INPUT: true; the input reads as it did. -/
def tripCostSpec : ChangeSpec := { name := "tripCost", fn := fun _ => fun
  | [d1, d2, d3] => { results := [.lit (.bool true)], args := [d1, d2, d3] }
  | _ => none }
def tripCostRow : OpenClaim := { program := "ytpepcfombibpeaa", sum := "a4e46215a52719dfde3a1186507801955dbeb6ede2bda6f71a1e008986353d54", func := "drayman/draymanlaw04.TripCost", spec := "tripCost", unfollowed := true, recurses := true, apart := false }
def TripCostSaid : Prop := tripCostRow.holds Try.pinned (OpenSpec.ofChange tripCostSpec)

/-- ITS FALSE NEIGHBOUR: 'it returns false'. Refute it at one input. -/
def tripCostWrong : ChangeSpec := { name := "tripCost", fn := fun _ => fun
  | [d1, d2, d3] => { results := [.lit (.bool false)], args := [d1, d2, d3] }
  | _ => none }
def TripCostWrongFalsely : Prop := tripCostRow.holds Try.pinned (OpenSpec.ofChange tripCostWrong)

/-- 'draymanlaw05.TabLate': WHATEVER THE INPUT: true; the input reads as it did. -/
def tabLateSpec : ChangeSpec := { name := "tabLate", fn := fun _ => fun
  | [d1, d2, d3, d4] => { results := [.lit (.bool true)], args := [d1, d2, d3, d4] }
  | _ => none }
def tabLateRow : OpenClaim := { program := "ytpepcfombibpeaa", sum := "a4e46215a52719dfde3a1186507801955dbeb6ede2bda6f71a1e008986353d54", func := "drayman/draymanlaw05.TabLate", spec := "tabLate", unfollowed := true, recurses := true, apart := false }
def TabLateSaid : Prop := tabLateRow.holds Try.pinned (OpenSpec.ofChange tabLateSpec)

/-- ITS FALSE NEIGHBOUR: 'it returns false'. Refute it at one input. -/
def tabLateWrong : ChangeSpec := { name := "tabLate", fn := fun _ => fun
  | [d1, d2, d3, d4] => { results := [.lit (.bool false)], args := [d1, d2, d3, d4] }
  | _ => none }
def TabLateWrongFalsely : Prop := tabLateRow.holds Try.pinned (OpenSpec.ofChange tabLateWrong)

/-- 'draymanlaw05.TabForms': WHATEVER THE INPUT: true; the input reads as it did. -/
def tabFormsSpec : ChangeSpec := { name := "tabForms", fn := fun _ => fun
  | [d] => { results := [.lit (.bool true)], args := [d] }
  | _ => none }
def tabFormsRow : OpenClaim := { program := "ytpepcfombibpeaa", sum := "a4e46215a52719dfde3a1186507801955dbeb6ede2bda6f71a1e008986353d54", func := "drayman/draymanlaw05.TabForms", spec := "tabForms", apart := false }
def TabFormsSaid : Prop := tabFormsRow.holds Try.pinned (OpenSpec.ofChange tabFormsSpec)

/-- ITS FALSE NEIGHBOUR: 'it returns false'. Refute it at one input. -/
def tabFormsWrong : ChangeSpec := { name := "tabForms", fn := fun _ => fun
  | [d] => { results := [.lit (.bool false)], args := [d] }
  | _ => none }
def TabFormsWrongFalsely : Prop := tabFormsRow.holds Try.pinned (OpenSpec.ofChange tabFormsWrong)

/-- 'draymanlaw05.TabParts': WHATEVER THE INPUT: true; the input reads as it did. -/
def tabPartsSpec : ChangeSpec := { name := "tabParts", fn := fun _ => fun
  | [d1, d2, d3] => { results := [.lit (.bool true)], args := [d1, d2, d3] }
  | _ => none }
def tabPartsRow : OpenClaim := { program := "ytpepcfombibpeaa", sum := "a4e46215a52719dfde3a1186507801955dbeb6ede2bda6f71a1e008986353d54", func := "drayman/draymanlaw05.TabParts", spec := "tabParts", unfollowed := true, recurses := true, apart := false }
def TabPartsSaid : Prop := tabPartsRow.holds Try.pinned (OpenSpec.ofChange tabPartsSpec)

/-- ITS FALSE NEIGHBOUR: 'it returns false'. Refute it at one input. -/
def tabPartsWrong : ChangeSpec := { name := "tabParts", fn := fun _ => fun
  | [d1, d2, d3] => { results := [.lit (.bool false)], args := [d1, d2, d3] }
  | _ => none }
def TabPartsWrongFalsely : Prop := tabPartsRow.holds Try.pinned (OpenSpec.ofChange tabPartsWrong)

/-- 'draymanlaw05.TabTells': WHATEVER THE INPUT: true; the input reads as it did. -/
def tabTellsSpec : ChangeSpec := { name := "tabTells", fn := fun _ => fun
  | [d1, d2, d3] => { results := [.lit (.bool true)], args := [d1, d2, d3] }
  | _ => none }
def tabTellsRow : OpenClaim := { program := "ytpepcfombibpeaa", sum := "a4e46215a52719dfde3a1186507801955dbeb6ede2bda6f71a1e008986353d54", func := "drayman/draymanlaw05.TabTells", spec := "tabTells", unfollowed := true, recurses := true, apart := false }
def TabTellsSaid : Prop := tabTellsRow.holds Try.pinned (OpenSpec.ofChange tabTellsSpec)

/-- ITS FALSE NEIGHBOUR: 'it returns false'. Refute it at one input. -/
def tabTellsWrong : ChangeSpec := { name := "tabTells", fn := fun _ => fun
  | [d1, d2, d3] => { results := [.lit (.bool false)], args := [d1, d2, d3] }
  | _ => none }
def TabTellsWrongFalsely : Prop := tabTellsRow.holds Try.pinned (OpenSpec.ofChange tabTellsWrong)

/-- 'draymanlaw05.TabMeets': WHATEVER THE INPUT: true; the input reads as it did. -/
def tabMeetsSpec : ChangeSpec := { name := "tabMeets", fn := fun _ => fun
  | [d1, d2, d3, d4] => { results := [.lit (.bool true)], args := [d1, d2, d3, d4] }
  | _ => none }
def tabMeetsRow : OpenClaim := { program := "ytpepcfombibpeaa", sum := "a4e46215a52719dfde3a1186507801955dbeb6ede2bda6f71a1e008986353d54", func := "drayman/draymanlaw05.TabMeets", spec := "tabMeets", unfollowed := true, recurses := true, apart := false }
def TabMeetsSaid : Prop := tabMeetsRow.holds Try.pinned (OpenSpec.ofChange tabMeetsSpec)

/-- ITS FALSE NEIGHBOUR: 'it returns false'. Refute it at one input. -/
def tabMeetsWrong : ChangeSpec := { name := "tabMeets", fn := fun _ => fun
  | [d1, d2, d3, d4] => { results := [.lit (.bool false)], args := [d1, d2, d3, d4] }
  | _ => none }
def TabMeetsWrongFalsely : Prop := tabMeetsRow.holds Try.pinned (OpenSpec.ofChange tabMeetsWrong)

/-- 'draymanlaw05.TabSets': WHATEVER THE INPUT: true; the input reads as it did. -/
def tabSetsSpec : ChangeSpec := { name := "tabSets", fn := fun _ => fun
  | [d1, d2, d3] => { results := [.lit (.bool true)], args := [d1, d2, d3] }
  | _ => none }
def tabSetsRow : OpenClaim := { program := "ytpepcfombibpeaa", sum := "a4e46215a52719dfde3a1186507801955dbeb6ede2bda6f71a1e008986353d54", func := "drayman/draymanlaw05.TabSets", spec := "tabSets", unfollowed := true, recurses := true, apart := false }
def TabSetsSaid : Prop := tabSetsRow.holds Try.pinned (OpenSpec.ofChange tabSetsSpec)

/-- ITS FALSE NEIGHBOUR: 'it returns false'. Refute it at one input. -/
def tabSetsWrong : ChangeSpec := { name := "tabSets", fn := fun _ => fun
  | [d1, d2, d3] => { results := [.lit (.bool false)], args := [d1, d2, d3] }
  | _ => none }
def TabSetsWrongFalsely : Prop := tabSetsRow.holds Try.pinned (OpenSpec.ofChange tabSetsWrong)

/-- 'draymanlaw06.FitsCross': WHATEVER THE INPUT: true; the input reads as it did. -/
def fitsCrossSpec : ChangeSpec := { name := "fitsCross", fn := fun _ => fun
  | [d1, d2, d3, d4, d5, d6] => { results := [.lit (.bool true)], args := [d1, d2, d3, d4, d5, d6] }
  | _ => none }
def fitsCrossRow : OpenClaim := { program := "ytpepcfombibpeaa", sum := "a4e46215a52719dfde3a1186507801955dbeb6ede2bda6f71a1e008986353d54", func := "drayman/draymanlaw06.FitsCross", spec := "fitsCross", unfollowed := true, recurses := true, apart := false }
def FitsCrossSaid : Prop := fitsCrossRow.holds Try.pinned (OpenSpec.ofChange fitsCrossSpec)

/-- ITS FALSE NEIGHBOUR: 'it returns false'. Refute it at one input. -/
def fitsCrossWrong : ChangeSpec := { name := "fitsCross", fn := fun _ => fun
  | [d1, d2, d3, d4, d5, d6] => { results := [.lit (.bool false)], args := [d1, d2, d3, d4, d5, d6] }
  | _ => none }
def FitsCrossWrongFalsely : Prop := fitsCrossRow.holds Try.pinned (OpenSpec.ofChange fitsCrossWrong)

/-- 'draymanlaw06.FitsGrows': WHATEVER THE INPUT: true; the input reads as it did. -/
def fitsGrowsSpec : ChangeSpec := { name := "fitsGrows", fn := fun _ => fun
  | [d1, d2, d3] => { results := [.lit (.bool true)], args := [d1, d2, d3] }
  | _ => none }
def fitsGrowsRow : OpenClaim := { program := "ytpepcfombibpeaa", sum := "a4e46215a52719dfde3a1186507801955dbeb6ede2bda6f71a1e008986353d54", func := "drayman/draymanlaw06.FitsGrows", spec := "fitsGrows", unfollowed := true, recurses := true, apart := false }
def FitsGrowsSaid : Prop := fitsGrowsRow.holds Try.pinned (OpenSpec.ofChange fitsGrowsSpec)

/-- ITS FALSE NEIGHBOUR: 'it returns false'. Refute it at one input. -/
def fitsGrowsWrong : ChangeSpec := { name := "fitsGrows", fn := fun _ => fun
  | [d1, d2, d3] => { results := [.lit (.bool false)], args := [d1, d2, d3] }
  | _ => none }
def FitsGrowsWrongFalsely : Prop := fitsGrowsRow.holds Try.pinned (OpenSpec.ofChange fitsGrowsWrong)

/-- 'draymanlaw06.FitsAsks': WHATEVER THE INPUT: true; the input reads as it did. -/
def fitsAsksSpec : ChangeSpec := { name := "fitsAsks", fn := fun _ => fun
  | [d1, d2, d3, d4, d5, d6] => { results := [.lit (.bool true)], args := [d1, d2, d3, d4, d5, d6] }
  | _ => none }
def fitsAsksRow : OpenClaim := { program := "ytpepcfombibpeaa", sum := "a4e46215a52719dfde3a1186507801955dbeb6ede2bda6f71a1e008986353d54", func := "drayman/draymanlaw06.FitsAsks", spec := "fitsAsks", unfollowed := true, recurses := true, apart := false }
def FitsAsksSaid : Prop := fitsAsksRow.holds Try.pinned (OpenSpec.ofChange fitsAsksSpec)

/-- ITS FALSE NEIGHBOUR: 'it returns false'. Refute it at one input. -/
def fitsAsksWrong : ChangeSpec := { name := "fitsAsks", fn := fun _ => fun
  | [d1, d2, d3, d4, d5, d6] => { results := [.lit (.bool false)], args := [d1, d2, d3, d4, d5, d6] }
  | _ => none }
def FitsAsksWrongFalsely : Prop := fitsAsksRow.holds Try.pinned (OpenSpec.ofChange fitsAsksWrong)

/-- 'draymanlaw06.FitsForms': WHATEVER THE INPUT: true; the input reads as it did. -/
def fitsFormsSpec : ChangeSpec := { name := "fitsForms", fn := fun _ => fun
  | [d] => { results := [.lit (.bool true)], args := [d] }
  | _ => none }
def fitsFormsRow : OpenClaim := { program := "ytpepcfombibpeaa", sum := "a4e46215a52719dfde3a1186507801955dbeb6ede2bda6f71a1e008986353d54", func := "drayman/draymanlaw06.FitsForms", spec := "fitsForms", apart := false }
def FitsFormsSaid : Prop := fitsFormsRow.holds Try.pinned (OpenSpec.ofChange fitsFormsSpec)

/-- ITS FALSE NEIGHBOUR: 'it returns false'. Refute it at one input. -/
def fitsFormsWrong : ChangeSpec := { name := "fitsForms", fn := fun _ => fun
  | [d] => { results := [.lit (.bool false)], args := [d] }
  | _ => none }
def FitsFormsWrongFalsely : Prop := fitsFormsRow.holds Try.pinned (OpenSpec.ofChange fitsFormsWrong)

/-- 'draymanlaw06.FitsTells': WHATEVER THE INPUT: true; the input reads as it did. -/
def fitsTellsSpec : ChangeSpec := { name := "fitsTells", fn := fun _ => fun
  | [d1, d2, d3, d4, d5, d6] => { results := [.lit (.bool true)], args := [d1, d2, d3, d4, d5, d6] }
  | _ => none }
def fitsTellsRow : OpenClaim := { program := "ytpepcfombibpeaa", sum := "a4e46215a52719dfde3a1186507801955dbeb6ede2bda6f71a1e008986353d54", func := "drayman/draymanlaw06.FitsTells", spec := "fitsTells", unfollowed := true, recurses := true, apart := false }
def FitsTellsSaid : Prop := fitsTellsRow.holds Try.pinned (OpenSpec.ofChange fitsTellsSpec)

/-- ITS FALSE NEIGHBOUR: 'it returns false'. Refute it at one input. -/
def fitsTellsWrong : ChangeSpec := { name := "fitsTells", fn := fun _ => fun
  | [d1, d2, d3, d4, d5, d6] => { results := [.lit (.bool false)], args := [d1, d2, d3, d4, d5, d6] }
  | _ => none }
def FitsTellsWrongFalsely : Prop := fitsTellsRow.holds Try.pinned (OpenSpec.ofChange fitsTellsWrong)

/-- 'draymanlaw11.CertForms': WHATEVER THE INPUT: true; the input reads as it did. -/
def certFormsSpec : ChangeSpec := { name := "certForms", fn := fun _ => fun
  | [d] => { results := [.lit (.bool true)], args := [d] }
  | _ => none }
def certFormsRow : OpenClaim := { program := "ytpepcfombibpeaa", sum := "a4e46215a52719dfde3a1186507801955dbeb6ede2bda6f71a1e008986353d54", func := "drayman/draymanlaw11.CertForms", spec := "certForms", apart := false }
def CertFormsSaid : Prop := certFormsRow.holds Try.pinned (OpenSpec.ofChange certFormsSpec)

/-- ITS FALSE NEIGHBOUR: 'it returns false'. Refute it at one input. -/
def certFormsWrong : ChangeSpec := { name := "certForms", fn := fun _ => fun
  | [d] => { results := [.lit (.bool false)], args := [d] }
  | _ => none }
def CertFormsWrongFalsely : Prop := certFormsRow.holds Try.pinned (OpenSpec.ofChange certFormsWrong)

/-- 'draymanlaw11.CertOnly': WHATEVER THE INPUT: true; the input reads as it did. -/
def certOnlySpec : ChangeSpec := { name := "certOnly", fn := fun _ => fun
  | [d1, d2, d3, d4, d5, d6, d7] => { results := [.lit (.bool true)], args := [d1, d2, d3, d4, d5, d6, d7] }
  | _ => none }
def certOnlyRow : OpenClaim := { program := "ytpepcfombibpeaa", sum := "a4e46215a52719dfde3a1186507801955dbeb6ede2bda6f71a1e008986353d54", func := "drayman/draymanlaw11.CertOnly", spec := "certOnly", unfollowed := true, recurses := true, apart := false }
def CertOnlySaid : Prop := certOnlyRow.holds Try.pinned (OpenSpec.ofChange certOnlySpec)

/-- ITS FALSE NEIGHBOUR: 'it returns false'. Refute it at one input. -/
def certOnlyWrong : ChangeSpec := { name := "certOnly", fn := fun _ => fun
  | [d1, d2, d3, d4, d5, d6, d7] => { results := [.lit (.bool false)], args := [d1, d2, d3, d4, d5, d6, d7] }
  | _ => none }
def CertOnlyWrongFalsely : Prop := certOnlyRow.holds Try.pinned (OpenSpec.ofChange certOnlyWrong)

/-- 'draymanlaw11.CertTells': WHATEVER THE INPUT: true; the input reads as it did. -/
def certTellsSpec : ChangeSpec := { name := "certTells", fn := fun _ => fun
  | [d1, d2, d3, d4, d5, d6] => { results := [.lit (.bool true)], args := [d1, d2, d3, d4, d5, d6] }
  | _ => none }
def certTellsRow : OpenClaim := { program := "ytpepcfombibpeaa", sum := "a4e46215a52719dfde3a1186507801955dbeb6ede2bda6f71a1e008986353d54", func := "drayman/draymanlaw11.CertTells", spec := "certTells", unfollowed := true, recurses := true, apart := false }
def CertTellsSaid : Prop := certTellsRow.holds Try.pinned (OpenSpec.ofChange certTellsSpec)

/-- ITS FALSE NEIGHBOUR: 'it returns false'. Refute it at one input. -/
def certTellsWrong : ChangeSpec := { name := "certTells", fn := fun _ => fun
  | [d1, d2, d3, d4, d5, d6] => { results := [.lit (.bool false)], args := [d1, d2, d3, d4, d5, d6] }
  | _ => none }
def CertTellsWrongFalsely : Prop := certTellsRow.holds Try.pinned (OpenSpec.ofChange certTellsWrong)

/- THE SECOND FORM. 'bulk': how many values and letters a reading holds, each counted each time it is reached (what is shared counts as often as it is met; a slice's spare places count too). A statement '..UptoSaid' is the law's where the arguments, and the package variables that the reading takes, are together of bulk at most 1048576: NARROWER than '..Said'. Prove '..Said' where nothing that the law and all that it calls make is longer than what came in: it says more and counts as full. Else prove '..UptoSaid'. A law counts once. -/
mutual
def uptoBulk {H : Type} : DataW H → Nat
  | .lit (.string bytes) => bytes.length + 1
  | .lit _ => 1
  | .nil => 1
  | .ptr d => uptoBulk d + 1
  | .slice elems spare => uptoBulkAll elems + uptoBulkAll spare + 1
  | .agg parts => uptoBulkAll parts + 1
  | .iface _ d => uptoBulk d + 1
  | .map entries => uptoBulkEntries entries + 1
  | .held _ => 1
def uptoBulkAll {H : Type} : List (DataW H) → Nat
  | [] => 0
  | d :: r => uptoBulk d + uptoBulkAll r
def uptoBulkEntries {H : Type} : List (Lit × DataW H) → Nat
  | [] => 0
  | x :: r => uptoBulkEntry x + uptoBulkEntries r
def uptoBulkEntry {H : Type} : Lit × DataW H → Nat
  | (.string bytes, d) => bytes.length + uptoBulk d + 1
  | (_, d) => uptoBulk d + 1
 end
def uptoSmall : (H : Type) → List (DataW H) → Bool := fun _ ds => decide (uptoBulkAll ds ≤ 1048576)
def OpenSpec.upto (s : _root_.Go.ChangeSpec) : _root_.Go.OpenSpec := { _root_.Go.OpenSpec.ofChange s with cond := some uptoSmall }

/-- 'draymanlaw04.TripForms', WHERE WHAT IT READS IS OF BULK AT MOST 1048576: true; the input reads as it did. -/
def tripFormsUptoRow : OpenClaim := { program := "ytpepcfombibpeaa", sum := "a4e46215a52719dfde3a1186507801955dbeb6ede2bda6f71a1e008986353d54", func := "drayman/draymanlaw04.TripForms", spec := "tripForms", apart := false, narrowed := true }
def TripFormsUptoSaid : Prop := tripFormsUptoRow.holds Try.pinned (OpenSpec.upto tripFormsSpec)

/-- 'draymanlaw04.TripBegins', WHERE WHAT IT READS IS OF BULK AT MOST 1048576: true; the input reads as it did. -/
def tripBeginsUptoRow : OpenClaim := { program := "ytpepcfombibpeaa", sum := "a4e46215a52719dfde3a1186507801955dbeb6ede2bda6f71a1e008986353d54", func := "drayman/draymanlaw04.TripBegins", spec := "tripBegins", unfollowed := true, recurses := true, apart := false, narrowed := true }
def TripBeginsUptoSaid : Prop := tripBeginsUptoRow.holds Try.pinned (OpenSpec.upto tripBeginsSpec)

/-- 'draymanlaw04.TripTells', WHERE WHAT IT READS IS OF BULK AT MOST 1048576: true; the input reads as it did. -/
def tripTellsUptoRow : OpenClaim := { program := "ytpepcfombibpeaa", sum := "a4e46215a52719dfde3a1186507801955dbeb6ede2bda6f71a1e008986353d54", func := "drayman/draymanlaw04.TripTells", spec := "tripTells", unfollowed := true, recurses := true, apart := false, narrowed := true }
def TripTellsUptoSaid : Prop := tripTellsUptoRow.holds Try.pinned (OpenSpec.upto tripTellsSpec)

/-- 'draymanlaw04.TripWaits', WHERE WHAT IT READS IS OF BULK AT MOST 1048576: true; the input reads as it did. -/
def tripWaitsUptoRow : OpenClaim := { program := "ytpepcfombibpeaa", sum := "a4e46215a52719dfde3a1186507801955dbeb6ede2bda6f71a1e008986353d54", func := "drayman/draymanlaw04.TripWaits", spec := "tripWaits", unfollowed := true, recurses := true, apart := false, narrowed := true }
def TripWaitsUptoSaid : Prop := tripWaitsUptoRow.holds Try.pinned (OpenSpec.upto tripWaitsSpec)

/-- 'draymanlaw04.TripPairs', WHERE WHAT IT READS IS OF BULK AT MOST 1048576: true; the input reads as it did. -/
def tripPairsUptoRow : OpenClaim := { program := "ytpepcfombibpeaa", sum := "a4e46215a52719dfde3a1186507801955dbeb6ede2bda6f71a1e008986353d54", func := "drayman/draymanlaw04.TripPairs", spec := "tripPairs", unfollowed := true, recurses := true, apart := false, narrowed := true }
def TripPairsUptoSaid : Prop := tripPairsUptoRow.holds Try.pinned (OpenSpec.upto tripPairsSpec)

/-- 'draymanlaw04.TripCost', WHERE WHAT IT READS IS OF BULK AT MOST 1048576: true; the input reads as it did. -/
def tripCostUptoRow : OpenClaim := { program := "ytpepcfombibpeaa", sum := "a4e46215a52719dfde3a1186507801955dbeb6ede2bda6f71a1e008986353d54", func := "drayman/draymanlaw04.TripCost", spec := "tripCost", unfollowed := true, recurses := true, apart := false, narrowed := true }
def TripCostUptoSaid : Prop := tripCostUptoRow.holds Try.pinned (OpenSpec.upto tripCostSpec)

/-- 'draymanlaw05.TabLate', WHERE WHAT IT READS IS OF BULK AT MOST 1048576: true; the input reads as it did. -/
def tabLateUptoRow : OpenClaim := { program := "ytpepcfombibpeaa", sum := "a4e46215a52719dfde3a1186507801955dbeb6ede2bda6f71a1e008986353d54", func := "drayman/draymanlaw05.TabLate", spec := "tabLate", unfollowed := true, recurses := true, apart := false, narrowed := true }
def TabLateUptoSaid : Prop := tabLateUptoRow.holds Try.pinned (OpenSpec.upto tabLateSpec)

/-- 'draymanlaw05.TabForms', WHERE WHAT IT READS IS OF BULK AT MOST 1048576: true; the input reads as it did. -/
def tabFormsUptoRow : OpenClaim := { program := "ytpepcfombibpeaa", sum := "a4e46215a52719dfde3a1186507801955dbeb6ede2bda6f71a1e008986353d54", func := "drayman/draymanlaw05.TabForms", spec := "tabForms", apart := false, narrowed := true }
def TabFormsUptoSaid : Prop := tabFormsUptoRow.holds Try.pinned (OpenSpec.upto tabFormsSpec)

/-- 'draymanlaw05.TabParts', WHERE WHAT IT READS IS OF BULK AT MOST 1048576: true; the input reads as it did. -/
def tabPartsUptoRow : OpenClaim := { program := "ytpepcfombibpeaa", sum := "a4e46215a52719dfde3a1186507801955dbeb6ede2bda6f71a1e008986353d54", func := "drayman/draymanlaw05.TabParts", spec := "tabParts", unfollowed := true, recurses := true, apart := false, narrowed := true }
def TabPartsUptoSaid : Prop := tabPartsUptoRow.holds Try.pinned (OpenSpec.upto tabPartsSpec)

/-- 'draymanlaw05.TabTells', WHERE WHAT IT READS IS OF BULK AT MOST 1048576: true; the input reads as it did. -/
def tabTellsUptoRow : OpenClaim := { program := "ytpepcfombibpeaa", sum := "a4e46215a52719dfde3a1186507801955dbeb6ede2bda6f71a1e008986353d54", func := "drayman/draymanlaw05.TabTells", spec := "tabTells", unfollowed := true, recurses := true, apart := false, narrowed := true }
def TabTellsUptoSaid : Prop := tabTellsUptoRow.holds Try.pinned (OpenSpec.upto tabTellsSpec)

/-- 'draymanlaw05.TabMeets', WHERE WHAT IT READS IS OF BULK AT MOST 1048576: true; the input reads as it did. -/
def tabMeetsUptoRow : OpenClaim := { program := "ytpepcfombibpeaa", sum := "a4e46215a52719dfde3a1186507801955dbeb6ede2bda6f71a1e008986353d54", func := "drayman/draymanlaw05.TabMeets", spec := "tabMeets", unfollowed := true, recurses := true, apart := false, narrowed := true }
def TabMeetsUptoSaid : Prop := tabMeetsUptoRow.holds Try.pinned (OpenSpec.upto tabMeetsSpec)

/-- 'draymanlaw05.TabSets', WHERE WHAT IT READS IS OF BULK AT MOST 1048576: true; the input reads as it did. -/
def tabSetsUptoRow : OpenClaim := { program := "ytpepcfombibpeaa", sum := "a4e46215a52719dfde3a1186507801955dbeb6ede2bda6f71a1e008986353d54", func := "drayman/draymanlaw05.TabSets", spec := "tabSets", unfollowed := true, recurses := true, apart := false, narrowed := true }
def TabSetsUptoSaid : Prop := tabSetsUptoRow.holds Try.pinned (OpenSpec.upto tabSetsSpec)

/-- 'draymanlaw06.FitsCross', WHERE WHAT IT READS IS OF BULK AT MOST 1048576: true; the input reads as it did. -/
def fitsCrossUptoRow : OpenClaim := { program := "ytpepcfombibpeaa", sum := "a4e46215a52719dfde3a1186507801955dbeb6ede2bda6f71a1e008986353d54", func := "drayman/draymanlaw06.FitsCross", spec := "fitsCross", unfollowed := true, recurses := true, apart := false, narrowed := true }
def FitsCrossUptoSaid : Prop := fitsCrossUptoRow.holds Try.pinned (OpenSpec.upto fitsCrossSpec)

/-- 'draymanlaw06.FitsGrows', WHERE WHAT IT READS IS OF BULK AT MOST 1048576: true; the input reads as it did. -/
def fitsGrowsUptoRow : OpenClaim := { program := "ytpepcfombibpeaa", sum := "a4e46215a52719dfde3a1186507801955dbeb6ede2bda6f71a1e008986353d54", func := "drayman/draymanlaw06.FitsGrows", spec := "fitsGrows", unfollowed := true, recurses := true, apart := false, narrowed := true }
def FitsGrowsUptoSaid : Prop := fitsGrowsUptoRow.holds Try.pinned (OpenSpec.upto fitsGrowsSpec)

/-- 'draymanlaw06.FitsAsks', WHERE WHAT IT READS IS OF BULK AT MOST 1048576: true; the input reads as it did. -/
def fitsAsksUptoRow : OpenClaim := { program := "ytpepcfombibpeaa", sum := "a4e46215a52719dfde3a1186507801955dbeb6ede2bda6f71a1e008986353d54", func := "drayman/draymanlaw06.FitsAsks", spec := "fitsAsks", unfollowed := true, recurses := true, apart := false, narrowed := true }
def FitsAsksUptoSaid : Prop := fitsAsksUptoRow.holds Try.pinned (OpenSpec.upto fitsAsksSpec)

/-- 'draymanlaw06.FitsForms', WHERE WHAT IT READS IS OF BULK AT MOST 1048576: true; the input reads as it did. -/
def fitsFormsUptoRow : OpenClaim := { program := "ytpepcfombibpeaa", sum := "a4e46215a52719dfde3a1186507801955dbeb6ede2bda6f71a1e008986353d54", func := "drayman/draymanlaw06.FitsForms", spec := "fitsForms", apart := false, narrowed := true }
def FitsFormsUptoSaid : Prop := fitsFormsUptoRow.holds Try.pinned (OpenSpec.upto fitsFormsSpec)

/-- 'draymanlaw06.FitsTells', WHERE WHAT IT READS IS OF BULK AT MOST 1048576: true; the input reads as it did. -/
def fitsTellsUptoRow : OpenClaim := { program := "ytpepcfombibpeaa", sum := "a4e46215a52719dfde3a1186507801955dbeb6ede2bda6f71a1e008986353d54", func := "drayman/draymanlaw06.FitsTells", spec := "fitsTells", unfollowed := true, recurses := true, apart := false, narrowed := true }
def FitsTellsUptoSaid : Prop := fitsTellsUptoRow.holds Try.pinned (OpenSpec.upto fitsTellsSpec)

/-- 'draymanlaw11.CertForms', WHERE WHAT IT READS IS OF BULK AT MOST 1048576: true; the input reads as it did. -/
def certFormsUptoRow : OpenClaim := { program := "ytpepcfombibpeaa", sum := "a4e46215a52719dfde3a1186507801955dbeb6ede2bda6f71a1e008986353d54", func := "drayman/draymanlaw11.CertForms", spec := "certForms", apart := false, narrowed := true }
def CertFormsUptoSaid : Prop := certFormsUptoRow.holds Try.pinned (OpenSpec.upto certFormsSpec)

/-- 'draymanlaw11.CertOnly', WHERE WHAT IT READS IS OF BULK AT MOST 1048576: true; the input reads as it did. -/
def certOnlyUptoRow : OpenClaim := { program := "ytpepcfombibpeaa", sum := "a4e46215a52719dfde3a1186507801955dbeb6ede2bda6f71a1e008986353d54", func := "drayman/draymanlaw11.CertOnly", spec := "certOnly", unfollowed := true, recurses := true, apart := false, narrowed := true }
def CertOnlyUptoSaid : Prop := certOnlyUptoRow.holds Try.pinned (OpenSpec.upto certOnlySpec)

/-- 'draymanlaw11.CertTells', WHERE WHAT IT READS IS OF BULK AT MOST 1048576: true; the input reads as it did. -/
def certTellsUptoRow : OpenClaim := { program := "ytpepcfombibpeaa", sum := "a4e46215a52719dfde3a1186507801955dbeb6ede2bda6f71a1e008986353d54", func := "drayman/draymanlaw11.CertTells", spec := "certTells", unfollowed := true, recurses := true, apart := false, narrowed := true }
def CertTellsUptoSaid : Prop := certTellsUptoRow.holds Try.pinned (OpenSpec.upto certTellsSpec)

end Rows
end Go.Proofs.Ytpepcfombibpeaa
