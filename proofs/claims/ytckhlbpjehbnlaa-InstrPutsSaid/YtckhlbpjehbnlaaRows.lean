/-
  NARROWER THAN 'FOR EVERY INPUT', by the rows' own cells (each row's printed sentence says how): InstrPuts: loops · InstrBack: loops · InstrRefused: loops · InstrCut: loops.
  DERIVED. THE GIVEN ROWS OF THIS SEAT. 7 by the template 'for every input the law returns true; each argument reads behind the call as it read before'; 0 by the template 'total and deterministic' (their statements: YtckhlbpjehbnlaaTotals.lean).
  GIVEN WITH THE SEED: the statements are not yours to turn. If you find one false, say at which input.
  Laid BY PROGRAM, IN A SANDBOX (cutbox-rows.mjs): the forced cells as the released guide's own fill.sh prints them over the translation 2f9f469ca0f91123… (all of the seat's roots in one cut). By AI agents, Wed Nov 11 2026. No macro, syntax, notation, axiom, sorry.
-/
import Derived.Test.YtckhlbpjehbnlaaChecked
import GoSem.Claim
import GoSem.ClaimJoined
import GoSem.ClaimMapViews
import Derived.JoinedTies
import Derived.KernelRfl
namespace Go.Proofs.Ytckhlbpjehbnlaa
/- THE CELL 'sum', in the pinned program and in every row, IS THE sha256 OF THE DUMP (.gsa) THAT YtckhlbpjehbnlaaProg.lean LOADS. Nothing in Lean hashes anything: it is a label: what it is worth is what the hold of that sum in a sandbox is worth. -/
noncomputable def Try.pinned : Pinned := { name := "ytckhlbpjehbnlaa", sum := "2f9f469ca0f9112343a2cf634cfc8539712a84705d997182eb7b935fa99a86e9", checked := Try.checked }
namespace Rows
def none {H : Type} : Left H := { results := [], args := [] }

/-- 'scarflaw05.InstrShapes': WHATEVER THE INPUT: true; the input reads as it did. -/
def instrShapesSpec : ChangeSpec := { name := "instrShapes", fn := fun _ => fun
  | [d] => { results := [.lit (.bool true)], args := [d] }
  | _ => none }
def instrShapesRow : OpenClaim := { program := "ytckhlbpjehbnlaa", sum := "2f9f469ca0f9112343a2cf634cfc8539712a84705d997182eb7b935fa99a86e9", func := "scarf/scarflaw05.InstrShapes", spec := "instrShapes", inPlace := ["internal/abi.NoEscape"], recurses := true, apart := false }
def InstrShapesSaid : Prop := instrShapesRow.holds Try.pinned (OpenSpec.ofChange instrShapesSpec)

/-- ITS FALSE NEIGHBOUR: 'it returns false'. Refute it at one input. -/
def instrShapesWrong : ChangeSpec := { name := "instrShapes", fn := fun _ => fun
  | [d] => { results := [.lit (.bool false)], args := [d] }
  | _ => none }
def InstrShapesWrongFalsely : Prop := instrShapesRow.holds Try.pinned (OpenSpec.ofChange instrShapesWrong)

/-- 'scarflaw05.InstrPuts': WHATEVER THE INPUT: true; the input reads as it did. -/
def instrPutsSpec : ChangeSpec := { name := "instrPuts", fn := fun _ => fun
  | [d] => { results := [.lit (.bool true)], args := [d] }
  | _ => none }
def instrPutsRow : OpenClaim := { program := "ytckhlbpjehbnlaa", sum := "2f9f469ca0f9112343a2cf634cfc8539712a84705d997182eb7b935fa99a86e9", func := "scarf/scarflaw05.InstrPuts", spec := "instrPuts", inPlace := ["internal/abi.NoEscape"], recurses := true, loops := true, apart := false }
def InstrPutsSaid : Prop := instrPutsRow.holds Try.pinned (OpenSpec.ofChange instrPutsSpec)

/-- ITS FALSE NEIGHBOUR: 'it returns false'. Refute it at one input. -/
def instrPutsWrong : ChangeSpec := { name := "instrPuts", fn := fun _ => fun
  | [d] => { results := [.lit (.bool false)], args := [d] }
  | _ => none }
def InstrPutsWrongFalsely : Prop := instrPutsRow.holds Try.pinned (OpenSpec.ofChange instrPutsWrong)

/-- 'scarflaw05.InstrBack': WHATEVER THE INPUT: true; the input reads as it did. -/
def instrBackSpec : ChangeSpec := { name := "instrBack", fn := fun _ => fun
  | [d1, d2] => { results := [.lit (.bool true)], args := [d1, d2] }
  | _ => none }
def instrBackRow : OpenClaim := { program := "ytckhlbpjehbnlaa", sum := "2f9f469ca0f9112343a2cf634cfc8539712a84705d997182eb7b935fa99a86e9", func := "scarf/scarflaw05.InstrBack", spec := "instrBack", inPlace := ["internal/abi.NoEscape"], recurses := true, loops := true, apart := false }
def InstrBackSaid : Prop := instrBackRow.holds Try.pinned (OpenSpec.ofChange instrBackSpec)

/-- ITS FALSE NEIGHBOUR: 'it returns false'. Refute it at one input. -/
def instrBackWrong : ChangeSpec := { name := "instrBack", fn := fun _ => fun
  | [d1, d2] => { results := [.lit (.bool false)], args := [d1, d2] }
  | _ => none }
def InstrBackWrongFalsely : Prop := instrBackRow.holds Try.pinned (OpenSpec.ofChange instrBackWrong)

/-- 'scarflaw05.InstrOnly': WHATEVER THE INPUT: true; the input reads as it did. -/
def instrOnlySpec : ChangeSpec := { name := "instrOnly", fn := fun _ => fun
  | [d] => { results := [.lit (.bool true)], args := [d] }
  | _ => none }
def instrOnlyRow : OpenClaim := { program := "ytckhlbpjehbnlaa", sum := "2f9f469ca0f9112343a2cf634cfc8539712a84705d997182eb7b935fa99a86e9", func := "scarf/scarflaw05.InstrOnly", spec := "instrOnly", inPlace := ["internal/abi.NoEscape"], recurses := true, apart := false }
def InstrOnlySaid : Prop := instrOnlyRow.holds Try.pinned (OpenSpec.ofChange instrOnlySpec)

/-- ITS FALSE NEIGHBOUR: 'it returns false'. Refute it at one input. -/
def instrOnlyWrong : ChangeSpec := { name := "instrOnly", fn := fun _ => fun
  | [d] => { results := [.lit (.bool false)], args := [d] }
  | _ => none }
def InstrOnlyWrongFalsely : Prop := instrOnlyRow.holds Try.pinned (OpenSpec.ofChange instrOnlyWrong)

/-- 'scarflaw05.InstrRefused': WHATEVER THE INPUT: true; the input reads as it did. -/
def instrRefusedSpec : ChangeSpec := { name := "instrRefused", fn := fun _ => fun
  | [d1, d2] => { results := [.lit (.bool true)], args := [d1, d2] }
  | _ => none }
def instrRefusedRow : OpenClaim := { program := "ytckhlbpjehbnlaa", sum := "2f9f469ca0f9112343a2cf634cfc8539712a84705d997182eb7b935fa99a86e9", func := "scarf/scarflaw05.InstrRefused", spec := "instrRefused", inPlace := ["internal/abi.NoEscape"], recurses := true, loops := true, apart := false }
def InstrRefusedSaid : Prop := instrRefusedRow.holds Try.pinned (OpenSpec.ofChange instrRefusedSpec)

/-- ITS FALSE NEIGHBOUR: 'it returns false'. Refute it at one input. -/
def instrRefusedWrong : ChangeSpec := { name := "instrRefused", fn := fun _ => fun
  | [d1, d2] => { results := [.lit (.bool false)], args := [d1, d2] }
  | _ => none }
def InstrRefusedWrongFalsely : Prop := instrRefusedRow.holds Try.pinned (OpenSpec.ofChange instrRefusedWrong)

/-- 'scarflaw05.InstrCut': WHATEVER THE INPUT: true; the input reads as it did. -/
def instrCutSpec : ChangeSpec := { name := "instrCut", fn := fun _ => fun
  | [d1, d2] => { results := [.lit (.bool true)], args := [d1, d2] }
  | _ => none }
def instrCutRow : OpenClaim := { program := "ytckhlbpjehbnlaa", sum := "2f9f469ca0f9112343a2cf634cfc8539712a84705d997182eb7b935fa99a86e9", func := "scarf/scarflaw05.InstrCut", spec := "instrCut", inPlace := ["internal/abi.NoEscape"], recurses := true, loops := true, apart := false }
def InstrCutSaid : Prop := instrCutRow.holds Try.pinned (OpenSpec.ofChange instrCutSpec)

/-- ITS FALSE NEIGHBOUR: 'it returns false'. Refute it at one input. -/
def instrCutWrong : ChangeSpec := { name := "instrCut", fn := fun _ => fun
  | [d1, d2] => { results := [.lit (.bool false)], args := [d1, d2] }
  | _ => none }
def InstrCutWrongFalsely : Prop := instrCutRow.holds Try.pinned (OpenSpec.ofChange instrCutWrong)

/-- 'scarflaw05.InstrTypes': WHATEVER THE INPUT: true; the input reads as it did. -/
def instrTypesSpec : ChangeSpec := { name := "instrTypes", fn := fun _ => fun
  | [d] => { results := [.lit (.bool true)], args := [d] }
  | _ => none }
def instrTypesRow : OpenClaim := { program := "ytckhlbpjehbnlaa", sum := "2f9f469ca0f9112343a2cf634cfc8539712a84705d997182eb7b935fa99a86e9", func := "scarf/scarflaw05.InstrTypes", spec := "instrTypes", inPlace := ["internal/abi.NoEscape"], recurses := true, apart := false }
def InstrTypesSaid : Prop := instrTypesRow.holds Try.pinned (OpenSpec.ofChange instrTypesSpec)

/-- ITS FALSE NEIGHBOUR: 'it returns false'. Refute it at one input. -/
def instrTypesWrong : ChangeSpec := { name := "instrTypes", fn := fun _ => fun
  | [d] => { results := [.lit (.bool false)], args := [d] }
  | _ => none }
def InstrTypesWrongFalsely : Prop := instrTypesRow.holds Try.pinned (OpenSpec.ofChange instrTypesWrong)

/- THE SECOND FORM. 'bulk': how many values and letters a reading holds, each counted each time it is reached (what is shared counts as often as it is met; a slice's spare places count too). A statement '..UptoSaid' is the law's where the arguments, and the package variables that the reading takes, are together of bulk at most 1048576: NARROWER than '..Said'. Prove '..Said' where nothing that the law and all that it calls make is longer than what came in: it says more and counts as full. Else prove '..UptoSaid'. A law counts once. -/
mutual
def uptoBulk {H : Type} : DataW H → Nat
  | .lit (.string bytes) => bytes.length + 1
  | .lit _ => 1
  | .nil => 1
  | .ptr d => uptoBulk d + 1
  | .slice elems spare => uptoBulkAll elems + uptoBulkAll spare + 1
  | .agg parts => uptoBulkAll parts + 1
  | .iface _ d => uptoBulk d + 1
  | .map entries => uptoBulkEntries entries + 1
  | .held _ => 1
def uptoBulkAll {H : Type} : List (DataW H) → Nat
  | [] => 0
  | d :: r => uptoBulk d + uptoBulkAll r
def uptoBulkEntries {H : Type} : List (Lit × DataW H) → Nat
  | [] => 0
  | x :: r => uptoBulkEntry x + uptoBulkEntries r
def uptoBulkEntry {H : Type} : Lit × DataW H → Nat
  | (.string bytes, d) => bytes.length + uptoBulk d + 1
  | (_, d) => uptoBulk d + 1
 end
def uptoSmall : (H : Type) → List (DataW H) → Bool := fun _ ds => decide (uptoBulkAll ds ≤ 1048576)
def OpenSpec.upto (s : _root_.Go.ChangeSpec) : _root_.Go.OpenSpec := { _root_.Go.OpenSpec.ofChange s with cond := some uptoSmall }

/-- 'scarflaw05.InstrShapes', WHERE WHAT IT READS IS OF BULK AT MOST 1048576: true; the input reads as it did. -/
def instrShapesUptoRow : OpenClaim := { program := "ytckhlbpjehbnlaa", sum := "2f9f469ca0f9112343a2cf634cfc8539712a84705d997182eb7b935fa99a86e9", func := "scarf/scarflaw05.InstrShapes", spec := "instrShapes", inPlace := ["internal/abi.NoEscape"], recurses := true, apart := false, narrowed := true }
def InstrShapesUptoSaid : Prop := instrShapesUptoRow.holds Try.pinned (OpenSpec.upto instrShapesSpec)

/-- 'scarflaw05.InstrPuts', WHERE WHAT IT READS IS OF BULK AT MOST 1048576: true; the input reads as it did. -/
def instrPutsUptoRow : OpenClaim := { program := "ytckhlbpjehbnlaa", sum := "2f9f469ca0f9112343a2cf634cfc8539712a84705d997182eb7b935fa99a86e9", func := "scarf/scarflaw05.InstrPuts", spec := "instrPuts", inPlace := ["internal/abi.NoEscape"], recurses := true, loops := true, apart := false, narrowed := true }
def InstrPutsUptoSaid : Prop := instrPutsUptoRow.holds Try.pinned (OpenSpec.upto instrPutsSpec)

/-- 'scarflaw05.InstrBack', WHERE WHAT IT READS IS OF BULK AT MOST 1048576: true; the input reads as it did. -/
def instrBackUptoRow : OpenClaim := { program := "ytckhlbpjehbnlaa", sum := "2f9f469ca0f9112343a2cf634cfc8539712a84705d997182eb7b935fa99a86e9", func := "scarf/scarflaw05.InstrBack", spec := "instrBack", inPlace := ["internal/abi.NoEscape"], recurses := true, loops := true, apart := false, narrowed := true }
def InstrBackUptoSaid : Prop := instrBackUptoRow.holds Try.pinned (OpenSpec.upto instrBackSpec)

/-- 'scarflaw05.InstrOnly', WHERE WHAT IT READS IS OF BULK AT MOST 1048576: true; the input reads as it did. -/
def instrOnlyUptoRow : OpenClaim := { program := "ytckhlbpjehbnlaa", sum := "2f9f469ca0f9112343a2cf634cfc8539712a84705d997182eb7b935fa99a86e9", func := "scarf/scarflaw05.InstrOnly", spec := "instrOnly", inPlace := ["internal/abi.NoEscape"], recurses := true, apart := false, narrowed := true }
def InstrOnlyUptoSaid : Prop := instrOnlyUptoRow.holds Try.pinned (OpenSpec.upto instrOnlySpec)

/-- 'scarflaw05.InstrRefused', WHERE WHAT IT READS IS OF BULK AT MOST 1048576: true; the input reads as it did. -/
def instrRefusedUptoRow : OpenClaim := { program := "ytckhlbpjehbnlaa", sum := "2f9f469ca0f9112343a2cf634cfc8539712a84705d997182eb7b935fa99a86e9", func := "scarf/scarflaw05.InstrRefused", spec := "instrRefused", inPlace := ["internal/abi.NoEscape"], recurses := true, loops := true, apart := false, narrowed := true }
def InstrRefusedUptoSaid : Prop := instrRefusedUptoRow.holds Try.pinned (OpenSpec.upto instrRefusedSpec)

/-- 'scarflaw05.InstrCut', WHERE WHAT IT READS IS OF BULK AT MOST 1048576: true; the input reads as it did. -/
def instrCutUptoRow : OpenClaim := { program := "ytckhlbpjehbnlaa", sum := "2f9f469ca0f9112343a2cf634cfc8539712a84705d997182eb7b935fa99a86e9", func := "scarf/scarflaw05.InstrCut", spec := "instrCut", inPlace := ["internal/abi.NoEscape"], recurses := true, loops := true, apart := false, narrowed := true }
def InstrCutUptoSaid : Prop := instrCutUptoRow.holds Try.pinned (OpenSpec.upto instrCutSpec)

/-- 'scarflaw05.InstrTypes', WHERE WHAT IT READS IS OF BULK AT MOST 1048576: true; the input reads as it did. -/
def instrTypesUptoRow : OpenClaim := { program := "ytckhlbpjehbnlaa", sum := "2f9f469ca0f9112343a2cf634cfc8539712a84705d997182eb7b935fa99a86e9", func := "scarf/scarflaw05.InstrTypes", spec := "instrTypes", inPlace := ["internal/abi.NoEscape"], recurses := true, apart := false, narrowed := true }
def InstrTypesUptoSaid : Prop := instrTypesUptoRow.holds Try.pinned (OpenSpec.upto instrTypesSpec)

end Rows
end Go.Proofs.Ytckhlbpjehbnlaa
