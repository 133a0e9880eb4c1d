/-
  No cell of these rows narrows 'for every input' (looked for: loops, veiled, ifaces, maps, wideKeys, modest, calm, conditions, laid).
  DERIVED. THE GIVEN ROWS OF THIS SEAT. 7 by the template 'for every input the law returns true; each argument reads behind the call as it read before'; 0 by the template 'total and deterministic' (their statements: YtdjkjdlbckcplaaTotals.lean).
  GIVEN WITH THE SEED: the statements are not yours to turn. If you find one false, say at which input.
  Laid BY PROGRAM, IN A SANDBOX (cutbox-rows.mjs): the forced cells as the released guide's own fill.sh prints them over the translation 258f856d7fdbe1d8… (all of the seat's roots in one cut). By AI agents, Wed Nov 11 2026. No macro, syntax, notation, axiom, sorry.
-/
import Derived.Test.YtdjkjdlbckcplaaChecked
import GoSem.Claim
import GoSem.ClaimJoined
import GoSem.ClaimMapViews
import Derived.JoinedTies
import Derived.KernelRfl
namespace Go.Proofs.Ytdjkjdlbckcplaa
/- THE CELL 'sum', in the pinned program and in every row, IS THE sha256 OF THE DUMP (.gsa) THAT YtdjkjdlbckcplaaProg.lean LOADS. Nothing in Lean hashes anything: it is a label: what it is worth is what the hold of that sum in a sandbox is worth. -/
noncomputable def Try.pinned : Pinned := { name := "ytdjkjdlbckcplaa", sum := "258f856d7fdbe1d863c837505334fc3a48f2d8602d3ac6a4351d08bef29a500a", checked := Try.checked }
namespace Rows
def none {H : Type} : Left H := { results := [], args := [] }

/-- 'scarflaw16.HandlesLive': WHATEVER THE INPUT: true; the input reads as it did. -/
def handlesLiveSpec : ChangeSpec := { name := "handlesLive", fn := fun _ => fun
  | [d1, d2, d3, d4] => { results := [.lit (.bool true)], args := [d1, d2, d3, d4] }
  | _ => none }
def handlesLiveRow : OpenClaim := { program := "ytdjkjdlbckcplaa", sum := "258f856d7fdbe1d863c837505334fc3a48f2d8602d3ac6a4351d08bef29a500a", func := "scarf/scarflaw16.HandlesLive", spec := "handlesLive", unfollowed := true, recurses := true, apart := false }
def HandlesLiveSaid : Prop := handlesLiveRow.holds Try.pinned (OpenSpec.ofChange handlesLiveSpec)

/-- ITS FALSE NEIGHBOUR: 'it returns false'. Refute it at one input. -/
def handlesLiveWrong : ChangeSpec := { name := "handlesLive", fn := fun _ => fun
  | [d1, d2, d3, d4] => { results := [.lit (.bool false)], args := [d1, d2, d3, d4] }
  | _ => none }
def HandlesLiveWrongFalsely : Prop := handlesLiveRow.holds Try.pinned (OpenSpec.ofChange handlesLiveWrong)

/-- 'scarflaw16.HandlesOnce': WHATEVER THE INPUT: true; the input reads as it did. -/
def handlesOnceSpec : ChangeSpec := { name := "handlesOnce", fn := fun _ => fun
  | [d] => { results := [.lit (.bool true)], args := [d] }
  | _ => none }
def handlesOnceRow : OpenClaim := { program := "ytdjkjdlbckcplaa", sum := "258f856d7fdbe1d863c837505334fc3a48f2d8602d3ac6a4351d08bef29a500a", func := "scarf/scarflaw16.HandlesOnce", spec := "handlesOnce", unfollowed := true, recurses := true, apart := false }
def HandlesOnceSaid : Prop := handlesOnceRow.holds Try.pinned (OpenSpec.ofChange handlesOnceSpec)

/-- ITS FALSE NEIGHBOUR: 'it returns false'. Refute it at one input. -/
def handlesOnceWrong : ChangeSpec := { name := "handlesOnce", fn := fun _ => fun
  | [d] => { results := [.lit (.bool false)], args := [d] }
  | _ => none }
def HandlesOnceWrongFalsely : Prop := handlesOnceRow.holds Try.pinned (OpenSpec.ofChange handlesOnceWrong)

/-- 'scarflaw16.HandlesPlays': WHATEVER THE INPUT: true; the input reads as it did. -/
def handlesPlaysSpec : ChangeSpec := { name := "handlesPlays", fn := fun _ => fun
  | [d1, d2, d3] => { results := [.lit (.bool true)], args := [d1, d2, d3] }
  | _ => none }
def handlesPlaysRow : OpenClaim := { program := "ytdjkjdlbckcplaa", sum := "258f856d7fdbe1d863c837505334fc3a48f2d8602d3ac6a4351d08bef29a500a", func := "scarf/scarflaw16.HandlesPlays", spec := "handlesPlays", unfollowed := true, recurses := true, apart := false }
def HandlesPlaysSaid : Prop := handlesPlaysRow.holds Try.pinned (OpenSpec.ofChange handlesPlaysSpec)

/-- ITS FALSE NEIGHBOUR: 'it returns false'. Refute it at one input. -/
def handlesPlaysWrong : ChangeSpec := { name := "handlesPlays", fn := fun _ => fun
  | [d1, d2, d3] => { results := [.lit (.bool false)], args := [d1, d2, d3] }
  | _ => none }
def HandlesPlaysWrongFalsely : Prop := handlesPlaysRow.holds Try.pinned (OpenSpec.ofChange handlesPlaysWrong)

/-- 'scarflaw16.HandlesLent': WHATEVER THE INPUT: true; the input reads as it did. -/
def handlesLentSpec : ChangeSpec := { name := "handlesLent", fn := fun _ => fun
  | [d1, d2] => { results := [.lit (.bool true)], args := [d1, d2] }
  | _ => none }
def handlesLentRow : OpenClaim := { program := "ytdjkjdlbckcplaa", sum := "258f856d7fdbe1d863c837505334fc3a48f2d8602d3ac6a4351d08bef29a500a", func := "scarf/scarflaw16.HandlesLent", spec := "handlesLent", unfollowed := true, recurses := true, apart := false }
def HandlesLentSaid : Prop := handlesLentRow.holds Try.pinned (OpenSpec.ofChange handlesLentSpec)

/-- ITS FALSE NEIGHBOUR: 'it returns false'. Refute it at one input. -/
def handlesLentWrong : ChangeSpec := { name := "handlesLent", fn := fun _ => fun
  | [d1, d2] => { results := [.lit (.bool false)], args := [d1, d2] }
  | _ => none }
def HandlesLentWrongFalsely : Prop := handlesLentRow.holds Try.pinned (OpenSpec.ofChange handlesLentWrong)

/-- 'scarflaw16.HandlesScoped': WHATEVER THE INPUT: true; the input reads as it did. -/
def handlesScopedSpec : ChangeSpec := { name := "handlesScoped", fn := fun _ => fun
  | [d1, d2] => { results := [.lit (.bool true)], args := [d1, d2] }
  | _ => none }
def handlesScopedRow : OpenClaim := { program := "ytdjkjdlbckcplaa", sum := "258f856d7fdbe1d863c837505334fc3a48f2d8602d3ac6a4351d08bef29a500a", func := "scarf/scarflaw16.HandlesScoped", spec := "handlesScoped", unfollowed := true, recurses := true, apart := false }
def HandlesScopedSaid : Prop := handlesScopedRow.holds Try.pinned (OpenSpec.ofChange handlesScopedSpec)

/-- ITS FALSE NEIGHBOUR: 'it returns false'. Refute it at one input. -/
def handlesScopedWrong : ChangeSpec := { name := "handlesScoped", fn := fun _ => fun
  | [d1, d2] => { results := [.lit (.bool false)], args := [d1, d2] }
  | _ => none }
def HandlesScopedWrongFalsely : Prop := handlesScopedRow.holds Try.pinned (OpenSpec.ofChange handlesScopedWrong)

/-- 'scarflaw16.HandlesTraps': WHATEVER THE INPUT: true; the input reads as it did. -/
def handlesTrapsSpec : ChangeSpec := { name := "handlesTraps", fn := fun _ => fun
  | [d1, d2] => { results := [.lit (.bool true)], args := [d1, d2] }
  | _ => none }
def handlesTrapsRow : OpenClaim := { program := "ytdjkjdlbckcplaa", sum := "258f856d7fdbe1d863c837505334fc3a48f2d8602d3ac6a4351d08bef29a500a", func := "scarf/scarflaw16.HandlesTraps", spec := "handlesTraps", unfollowed := true, recurses := true, apart := false }
def HandlesTrapsSaid : Prop := handlesTrapsRow.holds Try.pinned (OpenSpec.ofChange handlesTrapsSpec)

/-- ITS FALSE NEIGHBOUR: 'it returns false'. Refute it at one input. -/
def handlesTrapsWrong : ChangeSpec := { name := "handlesTraps", fn := fun _ => fun
  | [d1, d2] => { results := [.lit (.bool false)], args := [d1, d2] }
  | _ => none }
def HandlesTrapsWrongFalsely : Prop := handlesTrapsRow.holds Try.pinned (OpenSpec.ofChange handlesTrapsWrong)

/-- 'scarflaw16.HandlesNone': WHATEVER THE INPUT: true; the input reads as it did. -/
def handlesNoneSpec : ChangeSpec := { name := "handlesNone", fn := fun _ => fun
  | [d1, d2, d3] => { results := [.lit (.bool true)], args := [d1, d2, d3] }
  | _ => none }
def handlesNoneRow : OpenClaim := { program := "ytdjkjdlbckcplaa", sum := "258f856d7fdbe1d863c837505334fc3a48f2d8602d3ac6a4351d08bef29a500a", func := "scarf/scarflaw16.HandlesNone", spec := "handlesNone", unfollowed := true, recurses := true, apart := false }
def HandlesNoneSaid : Prop := handlesNoneRow.holds Try.pinned (OpenSpec.ofChange handlesNoneSpec)

/-- ITS FALSE NEIGHBOUR: 'it returns false'. Refute it at one input. -/
def handlesNoneWrong : ChangeSpec := { name := "handlesNone", fn := fun _ => fun
  | [d1, d2, d3] => { results := [.lit (.bool false)], args := [d1, d2, d3] }
  | _ => none }
def HandlesNoneWrongFalsely : Prop := handlesNoneRow.holds Try.pinned (OpenSpec.ofChange handlesNoneWrong)

/- THE SECOND FORM. 'bulk': how many values and letters a reading holds, each counted each time it is reached (what is shared counts as often as it is met; a slice's spare places count too). A statement '..UptoSaid' is the law's where the arguments, and the package variables that the reading takes, are together of bulk at most 1048576: NARROWER than '..Said'. Prove '..Said' where nothing that the law and all that it calls make is longer than what came in: it says more and counts as full. Else prove '..UptoSaid'. A law counts once. -/
mutual
def uptoBulk {H : Type} : DataW H → Nat
  | .lit (.string bytes) => bytes.length + 1
  | .lit _ => 1
  | .nil => 1
  | .ptr d => uptoBulk d + 1
  | .slice elems spare => uptoBulkAll elems + uptoBulkAll spare + 1
  | .agg parts => uptoBulkAll parts + 1
  | .iface _ d => uptoBulk d + 1
  | .map entries => uptoBulkEntries entries + 1
  | .held _ => 1
def uptoBulkAll {H : Type} : List (DataW H) → Nat
  | [] => 0
  | d :: r => uptoBulk d + uptoBulkAll r
def uptoBulkEntries {H : Type} : List (Lit × DataW H) → Nat
  | [] => 0
  | x :: r => uptoBulkEntry x + uptoBulkEntries r
def uptoBulkEntry {H : Type} : Lit × DataW H → Nat
  | (.string bytes, d) => bytes.length + uptoBulk d + 1
  | (_, d) => uptoBulk d + 1
 end
def uptoSmall : (H : Type) → List (DataW H) → Bool := fun _ ds => decide (uptoBulkAll ds ≤ 1048576)
def OpenSpec.upto (s : _root_.Go.ChangeSpec) : _root_.Go.OpenSpec := { _root_.Go.OpenSpec.ofChange s with cond := some uptoSmall }

/-- 'scarflaw16.HandlesLive', WHERE WHAT IT READS IS OF BULK AT MOST 1048576: true; the input reads as it did. -/
def handlesLiveUptoRow : OpenClaim := { program := "ytdjkjdlbckcplaa", sum := "258f856d7fdbe1d863c837505334fc3a48f2d8602d3ac6a4351d08bef29a500a", func := "scarf/scarflaw16.HandlesLive", spec := "handlesLive", unfollowed := true, recurses := true, apart := false, narrowed := true }
def HandlesLiveUptoSaid : Prop := handlesLiveUptoRow.holds Try.pinned (OpenSpec.upto handlesLiveSpec)

/-- 'scarflaw16.HandlesOnce', WHERE WHAT IT READS IS OF BULK AT MOST 1048576: true; the input reads as it did. -/
def handlesOnceUptoRow : OpenClaim := { program := "ytdjkjdlbckcplaa", sum := "258f856d7fdbe1d863c837505334fc3a48f2d8602d3ac6a4351d08bef29a500a", func := "scarf/scarflaw16.HandlesOnce", spec := "handlesOnce", unfollowed := true, recurses := true, apart := false, narrowed := true }
def HandlesOnceUptoSaid : Prop := handlesOnceUptoRow.holds Try.pinned (OpenSpec.upto handlesOnceSpec)

/-- 'scarflaw16.HandlesPlays', WHERE WHAT IT READS IS OF BULK AT MOST 1048576: true; the input reads as it did. -/
def handlesPlaysUptoRow : OpenClaim := { program := "ytdjkjdlbckcplaa", sum := "258f856d7fdbe1d863c837505334fc3a48f2d8602d3ac6a4351d08bef29a500a", func := "scarf/scarflaw16.HandlesPlays", spec := "handlesPlays", unfollowed := true, recurses := true, apart := false, narrowed := true }
def HandlesPlaysUptoSaid : Prop := handlesPlaysUptoRow.holds Try.pinned (OpenSpec.upto handlesPlaysSpec)

/-- 'scarflaw16.HandlesLent', WHERE WHAT IT READS IS OF BULK AT MOST 1048576: true; the input reads as it did. -/
def handlesLentUptoRow : OpenClaim := { program := "ytdjkjdlbckcplaa", sum := "258f856d7fdbe1d863c837505334fc3a48f2d8602d3ac6a4351d08bef29a500a", func := "scarf/scarflaw16.HandlesLent", spec := "handlesLent", unfollowed := true, recurses := true, apart := false, narrowed := true }
def HandlesLentUptoSaid : Prop := handlesLentUptoRow.holds Try.pinned (OpenSpec.upto handlesLentSpec)

/-- 'scarflaw16.HandlesScoped', WHERE WHAT IT READS IS OF BULK AT MOST 1048576: true; the input reads as it did. -/
def handlesScopedUptoRow : OpenClaim := { program := "ytdjkjdlbckcplaa", sum := "258f856d7fdbe1d863c837505334fc3a48f2d8602d3ac6a4351d08bef29a500a", func := "scarf/scarflaw16.HandlesScoped", spec := "handlesScoped", unfollowed := true, recurses := true, apart := false, narrowed := true }
def HandlesScopedUptoSaid : Prop := handlesScopedUptoRow.holds Try.pinned (OpenSpec.upto handlesScopedSpec)

/-- 'scarflaw16.HandlesTraps', WHERE WHAT IT READS IS OF BULK AT MOST 1048576: true; the input reads as it did. -/
def handlesTrapsUptoRow : OpenClaim := { program := "ytdjkjdlbckcplaa", sum := "258f856d7fdbe1d863c837505334fc3a48f2d8602d3ac6a4351d08bef29a500a", func := "scarf/scarflaw16.HandlesTraps", spec := "handlesTraps", unfollowed := true, recurses := true, apart := false, narrowed := true }
def HandlesTrapsUptoSaid : Prop := handlesTrapsUptoRow.holds Try.pinned (OpenSpec.upto handlesTrapsSpec)

/-- 'scarflaw16.HandlesNone', WHERE WHAT IT READS IS OF BULK AT MOST 1048576: true; the input reads as it did. -/
def handlesNoneUptoRow : OpenClaim := { program := "ytdjkjdlbckcplaa", sum := "258f856d7fdbe1d863c837505334fc3a48f2d8602d3ac6a4351d08bef29a500a", func := "scarf/scarflaw16.HandlesNone", spec := "handlesNone", unfollowed := true, recurses := true, apart := false, narrowed := true }
def HandlesNoneUptoSaid : Prop := handlesNoneUptoRow.holds Try.pinned (OpenSpec.upto handlesNoneSpec)

end Rows
end Go.Proofs.Ytdjkjdlbckcplaa
