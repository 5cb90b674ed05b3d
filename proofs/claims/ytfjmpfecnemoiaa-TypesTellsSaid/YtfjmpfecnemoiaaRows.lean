/-
  No cell of these rows narrows 'for every input' (looked for: loops, veiled, ifaces, maps, wideKeys, modest, calm, conditions, laid).
  DERIVED. THE GIVEN ROWS OF THIS SEAT. 9 by the template 'for every input the law returns true; each argument reads behind the call as it read before'; 0 by the template 'total and deterministic' (their statements: YtfjmpfecnemoiaaTotals.lean).
  GIVEN WITH THE SEED: the statements are not yours to turn. If you find one false, say at which input.
  Laid BY PROGRAM, IN A SANDBOX (cutbox-rows.mjs): the forced cells as the released guide's own fill.sh prints them over the translation 63ae46767ba594db… (all of the seat's roots in one cut). By AI agents, Wed Nov 11 2026. No macro, syntax, notation, axiom, sorry.
-/
import Derived.Test.YtfjmpfecnemoiaaChecked
import GoSem.Claim
import GoSem.ClaimJoined
import GoSem.ClaimMapViews
import Derived.JoinedTies
import Derived.KernelRfl
namespace Go.Proofs.Ytfjmpfecnemoiaa
/- THE CELL 'sum', in the pinned program and in every row, IS THE sha256 OF THE DUMP (.gsa) THAT YtfjmpfecnemoiaaProg.lean LOADS. Nothing in Lean hashes anything: it is a label: what it is worth is what the hold of that sum in a sandbox is worth. -/
noncomputable def Try.pinned : Pinned := { name := "ytfjmpfecnemoiaa", sum := "63ae46767ba594db059c5389957e59d5be05c6ccc03bb98a6746584ebf468c43", checked := Try.checked }
namespace Rows
def none {H : Type} : Left H := { results := [], args := [] }

/-- 'fescuelaw03.TypesTells': WHATEVER THE INPUT: true; the input reads as it did. -/
def typesTellsSpec : ChangeSpec := { name := "typesTells", fn := fun _ => fun
  | [d1, d2] => { results := [.lit (.bool true)], args := [d1, d2] }
  | _ => none }
def typesTellsRow : OpenClaim := { program := "ytfjmpfecnemoiaa", sum := "63ae46767ba594db059c5389957e59d5be05c6ccc03bb98a6746584ebf468c43", func := "fescue/fescuelaw03.TypesTells", spec := "typesTells", unfollowed := true, recurses := true, apart := false }
def TypesTellsSaid : Prop := typesTellsRow.holds Try.pinned (OpenSpec.ofChange typesTellsSpec)

/-- ITS FALSE NEIGHBOUR: 'it returns false'. Refute it at one input. -/
def typesTellsWrong : ChangeSpec := { name := "typesTells", fn := fun _ => fun
  | [d1, d2] => { results := [.lit (.bool false)], args := [d1, d2] }
  | _ => none }
def TypesTellsWrongFalsely : Prop := typesTellsRow.holds Try.pinned (OpenSpec.ofChange typesTellsWrong)

/-- 'fescuelaw03.TypesParts': WHATEVER THE INPUT: true; the input reads as it did. -/
def typesPartsSpec : ChangeSpec := { name := "typesParts", fn := fun _ => fun
  | [d1, d2, d3] => { results := [.lit (.bool true)], args := [d1, d2, d3] }
  | _ => none }
def typesPartsRow : OpenClaim := { program := "ytfjmpfecnemoiaa", sum := "63ae46767ba594db059c5389957e59d5be05c6ccc03bb98a6746584ebf468c43", func := "fescue/fescuelaw03.TypesParts", spec := "typesParts", unfollowed := true, recurses := true, apart := false }
def TypesPartsSaid : Prop := typesPartsRow.holds Try.pinned (OpenSpec.ofChange typesPartsSpec)

/-- ITS FALSE NEIGHBOUR: 'it returns false'. Refute it at one input. -/
def typesPartsWrong : ChangeSpec := { name := "typesParts", fn := fun _ => fun
  | [d1, d2, d3] => { results := [.lit (.bool false)], args := [d1, d2, d3] }
  | _ => none }
def TypesPartsWrongFalsely : Prop := typesPartsRow.holds Try.pinned (OpenSpec.ofChange typesPartsWrong)

/-- 'fescuelaw04.FlatTypes': WHATEVER THE INPUT: true; the input reads as it did. -/
def flatTypesSpec : ChangeSpec := { name := "flatTypes", fn := fun _ => fun
  | [d1, d2] => { results := [.lit (.bool true)], args := [d1, d2] }
  | _ => none }
def flatTypesRow : OpenClaim := { program := "ytfjmpfecnemoiaa", sum := "63ae46767ba594db059c5389957e59d5be05c6ccc03bb98a6746584ebf468c43", func := "fescue/fescuelaw04.FlatTypes", spec := "flatTypes", unfollowed := true, recurses := true, apart := false }
def FlatTypesSaid : Prop := flatTypesRow.holds Try.pinned (OpenSpec.ofChange flatTypesSpec)

/-- ITS FALSE NEIGHBOUR: 'it returns false'. Refute it at one input. -/
def flatTypesWrong : ChangeSpec := { name := "flatTypes", fn := fun _ => fun
  | [d1, d2] => { results := [.lit (.bool false)], args := [d1, d2] }
  | _ => none }
def FlatTypesWrongFalsely : Prop := flatTypesRow.holds Try.pinned (OpenSpec.ofChange flatTypesWrong)

/-- 'fescuelaw04.FlatParts': WHATEVER THE INPUT: true; the input reads as it did. -/
def flatPartsSpec : ChangeSpec := { name := "flatParts", fn := fun _ => fun
  | [d1, d2, d3, d4] => { results := [.lit (.bool true)], args := [d1, d2, d3, d4] }
  | _ => none }
def flatPartsRow : OpenClaim := { program := "ytfjmpfecnemoiaa", sum := "63ae46767ba594db059c5389957e59d5be05c6ccc03bb98a6746584ebf468c43", func := "fescue/fescuelaw04.FlatParts", spec := "flatParts", unfollowed := true, recurses := true, apart := false }
def FlatPartsSaid : Prop := flatPartsRow.holds Try.pinned (OpenSpec.ofChange flatPartsSpec)

/-- ITS FALSE NEIGHBOUR: 'it returns false'. Refute it at one input. -/
def flatPartsWrong : ChangeSpec := { name := "flatParts", fn := fun _ => fun
  | [d1, d2, d3, d4] => { results := [.lit (.bool false)], args := [d1, d2, d3, d4] }
  | _ => none }
def FlatPartsWrongFalsely : Prop := flatPartsRow.holds Try.pinned (OpenSpec.ofChange flatPartsWrong)

/-- 'fescuelaw03.TypesNames': WHATEVER THE INPUT: true; the input reads as it did. -/
def typesNamesSpec : ChangeSpec := { name := "typesNames", fn := fun _ => fun
  | [] => { results := [.lit (.bool true)], args := [] }
  | _ => none }
def typesNamesRow : OpenClaim := { program := "ytfjmpfecnemoiaa", sum := "63ae46767ba594db059c5389957e59d5be05c6ccc03bb98a6746584ebf468c43", func := "fescue/fescuelaw03.TypesNames", spec := "typesNames", unfollowed := true, recurses := true, apart := false }
def TypesNamesSaid : Prop := typesNamesRow.holds Try.pinned (OpenSpec.ofChange typesNamesSpec)

/-- ITS FALSE NEIGHBOUR: 'it returns false'. Refute it at one input. -/
def typesNamesWrong : ChangeSpec := { name := "typesNames", fn := fun _ => fun
  | [] => { results := [.lit (.bool false)], args := [] }
  | _ => none }
def TypesNamesWrongFalsely : Prop := typesNamesRow.holds Try.pinned (OpenSpec.ofChange typesNamesWrong)

/-- 'fescuelaw03.TypesAsks': WHATEVER THE INPUT: true; the input reads as it did. -/
def typesAsksSpec : ChangeSpec := { name := "typesAsks", fn := fun _ => fun
  | [d1, d2, d3] => { results := [.lit (.bool true)], args := [d1, d2, d3] }
  | _ => none }
def typesAsksRow : OpenClaim := { program := "ytfjmpfecnemoiaa", sum := "63ae46767ba594db059c5389957e59d5be05c6ccc03bb98a6746584ebf468c43", func := "fescue/fescuelaw03.TypesAsks", spec := "typesAsks", unfollowed := true, recurses := true, apart := false }
def TypesAsksSaid : Prop := typesAsksRow.holds Try.pinned (OpenSpec.ofChange typesAsksSpec)

/-- ITS FALSE NEIGHBOUR: 'it returns false'. Refute it at one input. -/
def typesAsksWrong : ChangeSpec := { name := "typesAsks", fn := fun _ => fun
  | [d1, d2, d3] => { results := [.lit (.bool false)], args := [d1, d2, d3] }
  | _ => none }
def TypesAsksWrongFalsely : Prop := typesAsksRow.holds Try.pinned (OpenSpec.ofChange typesAsksWrong)

/-- 'fescuelaw03.TypesCells': WHATEVER THE INPUT: true; the input reads as it did. -/
def typesCellsSpec : ChangeSpec := { name := "typesCells", fn := fun _ => fun
  | [d1, d2] => { results := [.lit (.bool true)], args := [d1, d2] }
  | _ => none }
def typesCellsRow : OpenClaim := { program := "ytfjmpfecnemoiaa", sum := "63ae46767ba594db059c5389957e59d5be05c6ccc03bb98a6746584ebf468c43", func := "fescue/fescuelaw03.TypesCells", spec := "typesCells", unfollowed := true, recurses := true, apart := false }
def TypesCellsSaid : Prop := typesCellsRow.holds Try.pinned (OpenSpec.ofChange typesCellsSpec)

/-- ITS FALSE NEIGHBOUR: 'it returns false'. Refute it at one input. -/
def typesCellsWrong : ChangeSpec := { name := "typesCells", fn := fun _ => fun
  | [d1, d2] => { results := [.lit (.bool false)], args := [d1, d2] }
  | _ => none }
def TypesCellsWrongFalsely : Prop := typesCellsRow.holds Try.pinned (OpenSpec.ofChange typesCellsWrong)

/-- 'fescuelaw04.FlatNames': WHATEVER THE INPUT: true; the input reads as it did. -/
def flatNamesSpec : ChangeSpec := { name := "flatNames", fn := fun _ => fun
  | [] => { results := [.lit (.bool true)], args := [] }
  | _ => none }
def flatNamesRow : OpenClaim := { program := "ytfjmpfecnemoiaa", sum := "63ae46767ba594db059c5389957e59d5be05c6ccc03bb98a6746584ebf468c43", func := "fescue/fescuelaw04.FlatNames", spec := "flatNames", unfollowed := true, recurses := true, apart := false }
def FlatNamesSaid : Prop := flatNamesRow.holds Try.pinned (OpenSpec.ofChange flatNamesSpec)

/-- ITS FALSE NEIGHBOUR: 'it returns false'. Refute it at one input. -/
def flatNamesWrong : ChangeSpec := { name := "flatNames", fn := fun _ => fun
  | [] => { results := [.lit (.bool false)], args := [] }
  | _ => none }
def FlatNamesWrongFalsely : Prop := flatNamesRow.holds Try.pinned (OpenSpec.ofChange flatNamesWrong)

/-- 'fescuelaw04.FlatTells': WHATEVER THE INPUT: true; the input reads as it did. -/
def flatTellsSpec : ChangeSpec := { name := "flatTells", fn := fun _ => fun
  | [d1, d2, d3] => { results := [.lit (.bool true)], args := [d1, d2, d3] }
  | _ => none }
def flatTellsRow : OpenClaim := { program := "ytfjmpfecnemoiaa", sum := "63ae46767ba594db059c5389957e59d5be05c6ccc03bb98a6746584ebf468c43", func := "fescue/fescuelaw04.FlatTells", spec := "flatTells", unfollowed := true, recurses := true, apart := false }
def FlatTellsSaid : Prop := flatTellsRow.holds Try.pinned (OpenSpec.ofChange flatTellsSpec)

/-- ITS FALSE NEIGHBOUR: 'it returns false'. Refute it at one input. -/
def flatTellsWrong : ChangeSpec := { name := "flatTells", fn := fun _ => fun
  | [d1, d2, d3] => { results := [.lit (.bool false)], args := [d1, d2, d3] }
  | _ => none }
def FlatTellsWrongFalsely : Prop := flatTellsRow.holds Try.pinned (OpenSpec.ofChange flatTellsWrong)

/- THE SECOND FORM. 'bulk': how many values and letters a reading holds, each counted each time it is reached (what is shared counts as often as it is met; a slice's spare places count too). A statement '..UptoSaid' is the law's where the arguments, and the package variables that the reading takes, are together of bulk at most 1048576: NARROWER than '..Said'. Prove '..Said' where nothing that the law and all that it calls make is longer than what came in: it says more and counts as full. Else prove '..UptoSaid'. A law counts once. -/
mutual
def uptoBulk {H : Type} : DataW H → Nat
  | .lit (.string bytes) => bytes.length + 1
  | .lit _ => 1
  | .nil => 1
  | .ptr d => uptoBulk d + 1
  | .slice elems spare => uptoBulkAll elems + uptoBulkAll spare + 1
  | .agg parts => uptoBulkAll parts + 1
  | .iface _ d => uptoBulk d + 1
  | .map entries => uptoBulkEntries entries + 1
  | .held _ => 1
def uptoBulkAll {H : Type} : List (DataW H) → Nat
  | [] => 0
  | d :: r => uptoBulk d + uptoBulkAll r
def uptoBulkEntries {H : Type} : List (Lit × DataW H) → Nat
  | [] => 0
  | x :: r => uptoBulkEntry x + uptoBulkEntries r
def uptoBulkEntry {H : Type} : Lit × DataW H → Nat
  | (.string bytes, d) => bytes.length + uptoBulk d + 1
  | (_, d) => uptoBulk d + 1
 end
def uptoSmall : (H : Type) → List (DataW H) → Bool := fun _ ds => decide (uptoBulkAll ds ≤ 1048576)
def OpenSpec.upto (s : _root_.Go.ChangeSpec) : _root_.Go.OpenSpec := { _root_.Go.OpenSpec.ofChange s with cond := some uptoSmall }

/-- 'fescuelaw03.TypesTells', WHERE WHAT IT READS IS OF BULK AT MOST 1048576: true; the input reads as it did. -/
def typesTellsUptoRow : OpenClaim := { program := "ytfjmpfecnemoiaa", sum := "63ae46767ba594db059c5389957e59d5be05c6ccc03bb98a6746584ebf468c43", func := "fescue/fescuelaw03.TypesTells", spec := "typesTells", unfollowed := true, recurses := true, apart := false, narrowed := true }
def TypesTellsUptoSaid : Prop := typesTellsUptoRow.holds Try.pinned (OpenSpec.upto typesTellsSpec)

/-- 'fescuelaw03.TypesParts', WHERE WHAT IT READS IS OF BULK AT MOST 1048576: true; the input reads as it did. -/
def typesPartsUptoRow : OpenClaim := { program := "ytfjmpfecnemoiaa", sum := "63ae46767ba594db059c5389957e59d5be05c6ccc03bb98a6746584ebf468c43", func := "fescue/fescuelaw03.TypesParts", spec := "typesParts", unfollowed := true, recurses := true, apart := false, narrowed := true }
def TypesPartsUptoSaid : Prop := typesPartsUptoRow.holds Try.pinned (OpenSpec.upto typesPartsSpec)

/-- 'fescuelaw04.FlatTypes', WHERE WHAT IT READS IS OF BULK AT MOST 1048576: true; the input reads as it did. -/
def flatTypesUptoRow : OpenClaim := { program := "ytfjmpfecnemoiaa", sum := "63ae46767ba594db059c5389957e59d5be05c6ccc03bb98a6746584ebf468c43", func := "fescue/fescuelaw04.FlatTypes", spec := "flatTypes", unfollowed := true, recurses := true, apart := false, narrowed := true }
def FlatTypesUptoSaid : Prop := flatTypesUptoRow.holds Try.pinned (OpenSpec.upto flatTypesSpec)

/-- 'fescuelaw04.FlatParts', WHERE WHAT IT READS IS OF BULK AT MOST 1048576: true; the input reads as it did. -/
def flatPartsUptoRow : OpenClaim := { program := "ytfjmpfecnemoiaa", sum := "63ae46767ba594db059c5389957e59d5be05c6ccc03bb98a6746584ebf468c43", func := "fescue/fescuelaw04.FlatParts", spec := "flatParts", unfollowed := true, recurses := true, apart := false, narrowed := true }
def FlatPartsUptoSaid : Prop := flatPartsUptoRow.holds Try.pinned (OpenSpec.upto flatPartsSpec)

/-- 'fescuelaw03.TypesNames', WHERE WHAT IT READS IS OF BULK AT MOST 1048576: true; the input reads as it did. -/
def typesNamesUptoRow : OpenClaim := { program := "ytfjmpfecnemoiaa", sum := "63ae46767ba594db059c5389957e59d5be05c6ccc03bb98a6746584ebf468c43", func := "fescue/fescuelaw03.TypesNames", spec := "typesNames", unfollowed := true, recurses := true, apart := false, narrowed := true }
def TypesNamesUptoSaid : Prop := typesNamesUptoRow.holds Try.pinned (OpenSpec.upto typesNamesSpec)

/-- 'fescuelaw03.TypesAsks', WHERE WHAT IT READS IS OF BULK AT MOST 1048576: true; the input reads as it did. -/
def typesAsksUptoRow : OpenClaim := { program := "ytfjmpfecnemoiaa", sum := "63ae46767ba594db059c5389957e59d5be05c6ccc03bb98a6746584ebf468c43", func := "fescue/fescuelaw03.TypesAsks", spec := "typesAsks", unfollowed := true, recurses := true, apart := false, narrowed := true }
def TypesAsksUptoSaid : Prop := typesAsksUptoRow.holds Try.pinned (OpenSpec.upto typesAsksSpec)

/-- 'fescuelaw03.TypesCells', WHERE WHAT IT READS IS OF BULK AT MOST 1048576: true; the input reads as it did. -/
def typesCellsUptoRow : OpenClaim := { program := "ytfjmpfecnemoiaa", sum := "63ae46767ba594db059c5389957e59d5be05c6ccc03bb98a6746584ebf468c43", func := "fescue/fescuelaw03.TypesCells", spec := "typesCells", unfollowed := true, recurses := true, apart := false, narrowed := true }
def TypesCellsUptoSaid : Prop := typesCellsUptoRow.holds Try.pinned (OpenSpec.upto typesCellsSpec)

/-- 'fescuelaw04.FlatNames', WHERE WHAT IT READS IS OF BULK AT MOST 1048576: true; the input reads as it did. -/
def flatNamesUptoRow : OpenClaim := { program := "ytfjmpfecnemoiaa", sum := "63ae46767ba594db059c5389957e59d5be05c6ccc03bb98a6746584ebf468c43", func := "fescue/fescuelaw04.FlatNames", spec := "flatNames", unfollowed := true, recurses := true, apart := false, narrowed := true }
def FlatNamesUptoSaid : Prop := flatNamesUptoRow.holds Try.pinned (OpenSpec.upto flatNamesSpec)

/-- 'fescuelaw04.FlatTells', WHERE WHAT IT READS IS OF BULK AT MOST 1048576: true; the input reads as it did. -/
def flatTellsUptoRow : OpenClaim := { program := "ytfjmpfecnemoiaa", sum := "63ae46767ba594db059c5389957e59d5be05c6ccc03bb98a6746584ebf468c43", func := "fescue/fescuelaw04.FlatTells", spec := "flatTells", unfollowed := true, recurses := true, apart := false, narrowed := true }
def FlatTellsUptoSaid : Prop := flatTellsUptoRow.holds Try.pinned (OpenSpec.upto flatTellsSpec)

end Rows
end Go.Proofs.Ytfjmpfecnemoiaa
