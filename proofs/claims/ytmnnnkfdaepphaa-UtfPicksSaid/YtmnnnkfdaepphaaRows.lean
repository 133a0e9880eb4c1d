/-
  No cell of these rows narrows 'for every input' (looked for: loops, veiled, ifaces, maps, wideKeys, modest, calm, conditions, laid).
  DERIVED. THE GIVEN ROWS OF THIS SEAT. 7 by the template 'for every input the law returns true; each argument reads behind the call as it read before'; 0 by the template 'total and deterministic' (their statements: YtmnnnkfdaepphaaTotals.lean).
  GIVEN WITH THE SEED: the statements are not yours to turn. If you find one false, say at which input.
  Laid BY PROGRAM, IN A SANDBOX (cutbox-rows.mjs): the forced cells as the released guide's own fill.sh prints them over the translation 7157f429d8d4430d… (all of the seat's roots in one cut). By AI agents, Wed Nov 11 2026. No macro, syntax, notation, axiom, sorry.
-/
import Derived.Test.YtmnnnkfdaepphaaChecked
import GoSem.Claim
import GoSem.ClaimJoined
import GoSem.ClaimMapViews
import Derived.JoinedTies
import Derived.KernelRfl
namespace Go.Proofs.Ytmnnnkfdaepphaa
/- THE CELL 'sum', in the pinned program and in every row, IS THE sha256 OF THE DUMP (.gsa) THAT YtmnnnkfdaepphaaProg.lean LOADS. Nothing in Lean hashes anything: it is a label: what it is worth is what the hold of that sum in a sandbox is worth. -/
noncomputable def Try.pinned : Pinned := { name := "ytmnnnkfdaepphaa", sum := "7157f429d8d4430db1a00e994cd18241d15280318c8121caf9a3e2e3d212cdc8", checked := Try.checked }
namespace Rows
def none {H : Type} : Left H := { results := [], args := [] }

/-- 'scarflaw02.UtfWrites': WHATEVER THE INPUT: true; the input reads as it did. -/
def utfWritesSpec : ChangeSpec := { name := "utfWrites", fn := fun _ => fun
  | [d1, d2] => { results := [.lit (.bool true)], args := [d1, d2] }
  | _ => none }
def utfWritesRow : OpenClaim := { program := "ytmnnnkfdaepphaa", sum := "7157f429d8d4430db1a00e994cd18241d15280318c8121caf9a3e2e3d212cdc8", func := "scarf/scarflaw02.UtfWrites", spec := "utfWrites", unfollowed := true, recurses := true, apart := false }
def UtfWritesSaid : Prop := utfWritesRow.holds Try.pinned (OpenSpec.ofChange utfWritesSpec)

/-- ITS FALSE NEIGHBOUR: 'it returns false'. Refute it at one input. -/
def utfWritesWrong : ChangeSpec := { name := "utfWrites", fn := fun _ => fun
  | [d1, d2] => { results := [.lit (.bool false)], args := [d1, d2] }
  | _ => none }
def UtfWritesWrongFalsely : Prop := utfWritesRow.holds Try.pinned (OpenSpec.ofChange utfWritesWrong)

/-- 'scarflaw02.UtfScalars': WHATEVER THE INPUT: true; the input reads as it did. -/
def utfScalarsSpec : ChangeSpec := { name := "utfScalars", fn := fun _ => fun
  | [d] => { results := [.lit (.bool true)], args := [d] }
  | _ => none }
def utfScalarsRow : OpenClaim := { program := "ytmnnnkfdaepphaa", sum := "7157f429d8d4430db1a00e994cd18241d15280318c8121caf9a3e2e3d212cdc8", func := "scarf/scarflaw02.UtfScalars", spec := "utfScalars", unfollowed := true, recurses := true, apart := false }
def UtfScalarsSaid : Prop := utfScalarsRow.holds Try.pinned (OpenSpec.ofChange utfScalarsSpec)

/-- ITS FALSE NEIGHBOUR: 'it returns false'. Refute it at one input. -/
def utfScalarsWrong : ChangeSpec := { name := "utfScalars", fn := fun _ => fun
  | [d] => { results := [.lit (.bool false)], args := [d] }
  | _ => none }
def UtfScalarsWrongFalsely : Prop := utfScalarsRow.holds Try.pinned (OpenSpec.ofChange utfScalarsWrong)

/-- 'scarflaw02.UtfBack': WHATEVER THE INPUT: true; the input reads as it did. -/
def utfBackSpec : ChangeSpec := { name := "utfBack", fn := fun _ => fun
  | [d1, d2] => { results := [.lit (.bool true)], args := [d1, d2] }
  | _ => none }
def utfBackRow : OpenClaim := { program := "ytmnnnkfdaepphaa", sum := "7157f429d8d4430db1a00e994cd18241d15280318c8121caf9a3e2e3d212cdc8", func := "scarf/scarflaw02.UtfBack", spec := "utfBack", unfollowed := true, recurses := true, apart := false }
def UtfBackSaid : Prop := utfBackRow.holds Try.pinned (OpenSpec.ofChange utfBackSpec)

/-- ITS FALSE NEIGHBOUR: 'it returns false'. Refute it at one input. -/
def utfBackWrong : ChangeSpec := { name := "utfBack", fn := fun _ => fun
  | [d1, d2] => { results := [.lit (.bool false)], args := [d1, d2] }
  | _ => none }
def UtfBackWrongFalsely : Prop := utfBackRow.holds Try.pinned (OpenSpec.ofChange utfBackWrong)

/-- 'scarflaw02.UtfOnly': WHATEVER THE INPUT: true; the input reads as it did. -/
def utfOnlySpec : ChangeSpec := { name := "utfOnly", fn := fun _ => fun
  | [d1, d2] => { results := [.lit (.bool true)], args := [d1, d2] }
  | _ => none }
def utfOnlyRow : OpenClaim := { program := "ytmnnnkfdaepphaa", sum := "7157f429d8d4430db1a00e994cd18241d15280318c8121caf9a3e2e3d212cdc8", func := "scarf/scarflaw02.UtfOnly", spec := "utfOnly", unfollowed := true, recurses := true, apart := false }
def UtfOnlySaid : Prop := utfOnlyRow.holds Try.pinned (OpenSpec.ofChange utfOnlySpec)

/-- ITS FALSE NEIGHBOUR: 'it returns false'. Refute it at one input. -/
def utfOnlyWrong : ChangeSpec := { name := "utfOnly", fn := fun _ => fun
  | [d1, d2] => { results := [.lit (.bool false)], args := [d1, d2] }
  | _ => none }
def UtfOnlyWrongFalsely : Prop := utfOnlyRow.holds Try.pinned (OpenSpec.ofChange utfOnlyWrong)

/-- 'scarflaw02.UtfReads': WHATEVER THE INPUT: true; the input reads as it did. -/
def utfReadsSpec : ChangeSpec := { name := "utfReads", fn := fun _ => fun
  | [d1, d2] => { results := [.lit (.bool true)], args := [d1, d2] }
  | _ => none }
def utfReadsRow : OpenClaim := { program := "ytmnnnkfdaepphaa", sum := "7157f429d8d4430db1a00e994cd18241d15280318c8121caf9a3e2e3d212cdc8", func := "scarf/scarflaw02.UtfReads", spec := "utfReads", unfollowed := true, recurses := true, apart := false }
def UtfReadsSaid : Prop := utfReadsRow.holds Try.pinned (OpenSpec.ofChange utfReadsSpec)

/-- ITS FALSE NEIGHBOUR: 'it returns false'. Refute it at one input. -/
def utfReadsWrong : ChangeSpec := { name := "utfReads", fn := fun _ => fun
  | [d1, d2] => { results := [.lit (.bool false)], args := [d1, d2] }
  | _ => none }
def UtfReadsWrongFalsely : Prop := utfReadsRow.holds Try.pinned (OpenSpec.ofChange utfReadsWrong)

/-- 'scarflaw02.UtfPicks': WHATEVER THE INPUT: true; the input reads as it did. -/
def utfPicksSpec : ChangeSpec := { name := "utfPicks", fn := fun _ => fun
  | [d1, d2] => { results := [.lit (.bool true)], args := [d1, d2] }
  | _ => none }
def utfPicksRow : OpenClaim := { program := "ytmnnnkfdaepphaa", sum := "7157f429d8d4430db1a00e994cd18241d15280318c8121caf9a3e2e3d212cdc8", func := "scarf/scarflaw02.UtfPicks", spec := "utfPicks", unfollowed := true, recurses := true, apart := false }
def UtfPicksSaid : Prop := utfPicksRow.holds Try.pinned (OpenSpec.ofChange utfPicksSpec)

/-- ITS FALSE NEIGHBOUR: 'it returns false'. Refute it at one input. -/
def utfPicksWrong : ChangeSpec := { name := "utfPicks", fn := fun _ => fun
  | [d1, d2] => { results := [.lit (.bool false)], args := [d1, d2] }
  | _ => none }
def UtfPicksWrongFalsely : Prop := utfPicksRow.holds Try.pinned (OpenSpec.ofChange utfPicksWrong)

/-- 'scarflaw02.UtfForms': WHATEVER THE INPUT: true; the input reads as it did. -/
def utfFormsSpec : ChangeSpec := { name := "utfForms", fn := fun _ => fun
  | [d1, d2, d3] => { results := [.lit (.bool true)], args := [d1, d2, d3] }
  | _ => none }
def utfFormsRow : OpenClaim := { program := "ytmnnnkfdaepphaa", sum := "7157f429d8d4430db1a00e994cd18241d15280318c8121caf9a3e2e3d212cdc8", func := "scarf/scarflaw02.UtfForms", spec := "utfForms", unfollowed := true, recurses := true, apart := false }
def UtfFormsSaid : Prop := utfFormsRow.holds Try.pinned (OpenSpec.ofChange utfFormsSpec)

/-- ITS FALSE NEIGHBOUR: 'it returns false'. Refute it at one input. -/
def utfFormsWrong : ChangeSpec := { name := "utfForms", fn := fun _ => fun
  | [d1, d2, d3] => { results := [.lit (.bool false)], args := [d1, d2, d3] }
  | _ => none }
def UtfFormsWrongFalsely : Prop := utfFormsRow.holds Try.pinned (OpenSpec.ofChange utfFormsWrong)

/- THE SECOND FORM. 'bulk': how many values and letters a reading holds, each counted each time it is reached (what is shared counts as often as it is met; a slice's spare places count too). A statement '..UptoSaid' is the law's where the arguments, and the package variables that the reading takes, are together of bulk at most 1048576: NARROWER than '..Said'. Prove '..Said' where nothing that the law and all that it calls make is longer than what came in: it says more and counts as full. Else prove '..UptoSaid'. A law counts once. -/
mutual
def uptoBulk {H : Type} : DataW H → Nat
  | .lit (.string bytes) => bytes.length + 1
  | .lit _ => 1
  | .nil => 1
  | .ptr d => uptoBulk d + 1
  | .slice elems spare => uptoBulkAll elems + uptoBulkAll spare + 1
  | .agg parts => uptoBulkAll parts + 1
  | .iface _ d => uptoBulk d + 1
  | .map entries => uptoBulkEntries entries + 1
  | .held _ => 1
def uptoBulkAll {H : Type} : List (DataW H) → Nat
  | [] => 0
  | d :: r => uptoBulk d + uptoBulkAll r
def uptoBulkEntries {H : Type} : List (Lit × DataW H) → Nat
  | [] => 0
  | x :: r => uptoBulkEntry x + uptoBulkEntries r
def uptoBulkEntry {H : Type} : Lit × DataW H → Nat
  | (.string bytes, d) => bytes.length + uptoBulk d + 1
  | (_, d) => uptoBulk d + 1
 end
def uptoSmall : (H : Type) → List (DataW H) → Bool := fun _ ds => decide (uptoBulkAll ds ≤ 1048576)
def OpenSpec.upto (s : _root_.Go.ChangeSpec) : _root_.Go.OpenSpec := { _root_.Go.OpenSpec.ofChange s with cond := some uptoSmall }

/-- 'scarflaw02.UtfWrites', WHERE WHAT IT READS IS OF BULK AT MOST 1048576: true; the input reads as it did. -/
def utfWritesUptoRow : OpenClaim := { program := "ytmnnnkfdaepphaa", sum := "7157f429d8d4430db1a00e994cd18241d15280318c8121caf9a3e2e3d212cdc8", func := "scarf/scarflaw02.UtfWrites", spec := "utfWrites", unfollowed := true, recurses := true, apart := false, narrowed := true }
def UtfWritesUptoSaid : Prop := utfWritesUptoRow.holds Try.pinned (OpenSpec.upto utfWritesSpec)

/-- 'scarflaw02.UtfScalars', WHERE WHAT IT READS IS OF BULK AT MOST 1048576: true; the input reads as it did. -/
def utfScalarsUptoRow : OpenClaim := { program := "ytmnnnkfdaepphaa", sum := "7157f429d8d4430db1a00e994cd18241d15280318c8121caf9a3e2e3d212cdc8", func := "scarf/scarflaw02.UtfScalars", spec := "utfScalars", unfollowed := true, recurses := true, apart := false, narrowed := true }
def UtfScalarsUptoSaid : Prop := utfScalarsUptoRow.holds Try.pinned (OpenSpec.upto utfScalarsSpec)

/-- 'scarflaw02.UtfBack', WHERE WHAT IT READS IS OF BULK AT MOST 1048576: true; the input reads as it did. -/
def utfBackUptoRow : OpenClaim := { program := "ytmnnnkfdaepphaa", sum := "7157f429d8d4430db1a00e994cd18241d15280318c8121caf9a3e2e3d212cdc8", func := "scarf/scarflaw02.UtfBack", spec := "utfBack", unfollowed := true, recurses := true, apart := false, narrowed := true }
def UtfBackUptoSaid : Prop := utfBackUptoRow.holds Try.pinned (OpenSpec.upto utfBackSpec)

/-- 'scarflaw02.UtfOnly', WHERE WHAT IT READS IS OF BULK AT MOST 1048576: true; the input reads as it did. -/
def utfOnlyUptoRow : OpenClaim := { program := "ytmnnnkfdaepphaa", sum := "7157f429d8d4430db1a00e994cd18241d15280318c8121caf9a3e2e3d212cdc8", func := "scarf/scarflaw02.UtfOnly", spec := "utfOnly", unfollowed := true, recurses := true, apart := false, narrowed := true }
def UtfOnlyUptoSaid : Prop := utfOnlyUptoRow.holds Try.pinned (OpenSpec.upto utfOnlySpec)

/-- 'scarflaw02.UtfReads', WHERE WHAT IT READS IS OF BULK AT MOST 1048576: true; the input reads as it did. -/
def utfReadsUptoRow : OpenClaim := { program := "ytmnnnkfdaepphaa", sum := "7157f429d8d4430db1a00e994cd18241d15280318c8121caf9a3e2e3d212cdc8", func := "scarf/scarflaw02.UtfReads", spec := "utfReads", unfollowed := true, recurses := true, apart := false, narrowed := true }
def UtfReadsUptoSaid : Prop := utfReadsUptoRow.holds Try.pinned (OpenSpec.upto utfReadsSpec)

/-- 'scarflaw02.UtfPicks', WHERE WHAT IT READS IS OF BULK AT MOST 1048576: true; the input reads as it did. -/
def utfPicksUptoRow : OpenClaim := { program := "ytmnnnkfdaepphaa", sum := "7157f429d8d4430db1a00e994cd18241d15280318c8121caf9a3e2e3d212cdc8", func := "scarf/scarflaw02.UtfPicks", spec := "utfPicks", unfollowed := true, recurses := true, apart := false, narrowed := true }
def UtfPicksUptoSaid : Prop := utfPicksUptoRow.holds Try.pinned (OpenSpec.upto utfPicksSpec)

/-- 'scarflaw02.UtfForms', WHERE WHAT IT READS IS OF BULK AT MOST 1048576: true; the input reads as it did. -/
def utfFormsUptoRow : OpenClaim := { program := "ytmnnnkfdaepphaa", sum := "7157f429d8d4430db1a00e994cd18241d15280318c8121caf9a3e2e3d212cdc8", func := "scarf/scarflaw02.UtfForms", spec := "utfForms", unfollowed := true, recurses := true, apart := false, narrowed := true }
def UtfFormsUptoSaid : Prop := utfFormsUptoRow.holds Try.pinned (OpenSpec.upto utfFormsSpec)

end Rows
end Go.Proofs.Ytmnnnkfdaepphaa
