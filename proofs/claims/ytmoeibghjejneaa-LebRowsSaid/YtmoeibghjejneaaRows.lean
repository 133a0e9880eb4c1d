/-
  No cell of these rows narrows 'for every input' (looked for: loops, veiled, ifaces, maps, wideKeys, modest, calm, conditions, laid).
  DERIVED. THE GIVEN ROWS OF THIS SEAT. 7 by the template 'for every input the law returns true; each argument reads behind the call as it read before'; 0 by the template 'total and deterministic' (their statements: YtmoeibghjejneaaTotals.lean).
  GIVEN WITH THE SEED: the statements are not yours to turn. If you find one false, say at which input.
  Laid BY PROGRAM, IN A SANDBOX (cutbox-rows.mjs): the forced cells as the released guide's own fill.sh prints them over the translation 47f31142282a3ae1… (all of the seat's roots in one cut). By AI agents, Wed Nov 11 2026. No macro, syntax, notation, axiom, sorry.
-/
import Derived.Test.YtmoeibghjejneaaChecked
import GoSem.Claim
import GoSem.ClaimJoined
import GoSem.ClaimMapViews
import Derived.JoinedTies
import Derived.KernelRfl
namespace Go.Proofs.Ytmoeibghjejneaa
/- THE CELL 'sum', in the pinned program and in every row, IS THE sha256 OF THE DUMP (.gsa) THAT YtmoeibghjejneaaProg.lean LOADS. Nothing in Lean hashes anything: it is a label: what it is worth is what the hold of that sum in a sandbox is worth. -/
noncomputable def Try.pinned : Pinned := { name := "ytmoeibghjejneaa", sum := "47f31142282a3ae1a3213f7c1818664614cdbd38487c3744d5ac2a23f4391606", checked := Try.checked }
namespace Rows
def none {H : Type} : Left H := { results := [], args := [] }

/-- 'scarflaw01.LebPuts': WHATEVER THE INPUT: true; the input reads as it did. -/
def lebPutsSpec : ChangeSpec := { name := "lebPuts", fn := fun _ => fun
  | [d] => { results := [.lit (.bool true)], args := [d] }
  | _ => none }
def lebPutsRow : OpenClaim := { program := "ytmoeibghjejneaa", sum := "47f31142282a3ae1a3213f7c1818664614cdbd38487c3744d5ac2a23f4391606", func := "scarf/scarflaw01.LebPuts", spec := "lebPuts", recurses := true, apart := false }
def LebPutsSaid : Prop := lebPutsRow.holds Try.pinned (OpenSpec.ofChange lebPutsSpec)

/-- ITS FALSE NEIGHBOUR: 'it returns false'. Refute it at one input. -/
def lebPutsWrong : ChangeSpec := { name := "lebPuts", fn := fun _ => fun
  | [d] => { results := [.lit (.bool false)], args := [d] }
  | _ => none }
def LebPutsWrongFalsely : Prop := lebPutsRow.holds Try.pinned (OpenSpec.ofChange lebPutsWrong)

/-- 'scarflaw01.LebBits': WHATEVER THE INPUT: true; the input reads as it did. -/
def lebBitsSpec : ChangeSpec := { name := "lebBits", fn := fun _ => fun
  | [d] => { results := [.lit (.bool true)], args := [d] }
  | _ => none }
def lebBitsRow : OpenClaim := { program := "ytmoeibghjejneaa", sum := "47f31142282a3ae1a3213f7c1818664614cdbd38487c3744d5ac2a23f4391606", func := "scarf/scarflaw01.LebBits", spec := "lebBits", apart := false }
def LebBitsSaid : Prop := lebBitsRow.holds Try.pinned (OpenSpec.ofChange lebBitsSpec)

/-- ITS FALSE NEIGHBOUR: 'it returns false'. Refute it at one input. -/
def lebBitsWrong : ChangeSpec := { name := "lebBits", fn := fun _ => fun
  | [d] => { results := [.lit (.bool false)], args := [d] }
  | _ => none }
def LebBitsWrongFalsely : Prop := lebBitsRow.holds Try.pinned (OpenSpec.ofChange lebBitsWrong)

/-- 'scarflaw01.LebTakes': WHATEVER THE INPUT: true; the input reads as it did. -/
def lebTakesSpec : ChangeSpec := { name := "lebTakes", fn := fun _ => fun
  | [d1, d2] => { results := [.lit (.bool true)], args := [d1, d2] }
  | _ => none }
def lebTakesRow : OpenClaim := { program := "ytmoeibghjejneaa", sum := "47f31142282a3ae1a3213f7c1818664614cdbd38487c3744d5ac2a23f4391606", func := "scarf/scarflaw01.LebTakes", spec := "lebTakes", apart := false }
def LebTakesSaid : Prop := lebTakesRow.holds Try.pinned (OpenSpec.ofChange lebTakesSpec)

/-- ITS FALSE NEIGHBOUR: 'it returns false'. Refute it at one input. -/
def lebTakesWrong : ChangeSpec := { name := "lebTakes", fn := fun _ => fun
  | [d1, d2] => { results := [.lit (.bool false)], args := [d1, d2] }
  | _ => none }
def LebTakesWrongFalsely : Prop := lebTakesRow.holds Try.pinned (OpenSpec.ofChange lebTakesWrong)

/-- 'scarflaw01.LebBack': WHATEVER THE INPUT: true; the input reads as it did. -/
def lebBackSpec : ChangeSpec := { name := "lebBack", fn := fun _ => fun
  | [d1, d2] => { results := [.lit (.bool true)], args := [d1, d2] }
  | _ => none }
def lebBackRow : OpenClaim := { program := "ytmoeibghjejneaa", sum := "47f31142282a3ae1a3213f7c1818664614cdbd38487c3744d5ac2a23f4391606", func := "scarf/scarflaw01.LebBack", spec := "lebBack", apart := false }
def LebBackSaid : Prop := lebBackRow.holds Try.pinned (OpenSpec.ofChange lebBackSpec)

/-- ITS FALSE NEIGHBOUR: 'it returns false'. Refute it at one input. -/
def lebBackWrong : ChangeSpec := { name := "lebBack", fn := fun _ => fun
  | [d1, d2] => { results := [.lit (.bool false)], args := [d1, d2] }
  | _ => none }
def LebBackWrongFalsely : Prop := lebBackRow.holds Try.pinned (OpenSpec.ofChange lebBackWrong)

/-- 'scarflaw01.LebShort': WHATEVER THE INPUT: true; the input reads as it did. -/
def lebShortSpec : ChangeSpec := { name := "lebShort", fn := fun _ => fun
  | [d] => { results := [.lit (.bool true)], args := [d] }
  | _ => none }
def lebShortRow : OpenClaim := { program := "ytmoeibghjejneaa", sum := "47f31142282a3ae1a3213f7c1818664614cdbd38487c3744d5ac2a23f4391606", func := "scarf/scarflaw01.LebShort", spec := "lebShort", apart := false }
def LebShortSaid : Prop := lebShortRow.holds Try.pinned (OpenSpec.ofChange lebShortSpec)

/-- ITS FALSE NEIGHBOUR: 'it returns false'. Refute it at one input. -/
def lebShortWrong : ChangeSpec := { name := "lebShort", fn := fun _ => fun
  | [d] => { results := [.lit (.bool false)], args := [d] }
  | _ => none }
def LebShortWrongFalsely : Prop := lebShortRow.holds Try.pinned (OpenSpec.ofChange lebShortWrong)

/-- 'scarflaw01.LebBytes': WHATEVER THE INPUT: true; the input reads as it did. -/
def lebBytesSpec : ChangeSpec := { name := "lebBytes", fn := fun _ => fun
  | [d1, d2] => { results := [.lit (.bool true)], args := [d1, d2] }
  | _ => none }
def lebBytesRow : OpenClaim := { program := "ytmoeibghjejneaa", sum := "47f31142282a3ae1a3213f7c1818664614cdbd38487c3744d5ac2a23f4391606", func := "scarf/scarflaw01.LebBytes", spec := "lebBytes", recurses := true, apart := false }
def LebBytesSaid : Prop := lebBytesRow.holds Try.pinned (OpenSpec.ofChange lebBytesSpec)

/-- ITS FALSE NEIGHBOUR: 'it returns false'. Refute it at one input. -/
def lebBytesWrong : ChangeSpec := { name := "lebBytes", fn := fun _ => fun
  | [d1, d2] => { results := [.lit (.bool false)], args := [d1, d2] }
  | _ => none }
def LebBytesWrongFalsely : Prop := lebBytesRow.holds Try.pinned (OpenSpec.ofChange lebBytesWrong)

/-- 'scarflaw01.LebRows': WHATEVER THE INPUT: true; the input reads as it did. -/
def lebRowsSpec : ChangeSpec := { name := "lebRows", fn := fun _ => fun
  | [d1, d2, d3] => { results := [.lit (.bool true)], args := [d1, d2, d3] }
  | _ => none }
def lebRowsRow : OpenClaim := { program := "ytmoeibghjejneaa", sum := "47f31142282a3ae1a3213f7c1818664614cdbd38487c3744d5ac2a23f4391606", func := "scarf/scarflaw01.LebRows", spec := "lebRows", recurses := true, apart := false }
def LebRowsSaid : Prop := lebRowsRow.holds Try.pinned (OpenSpec.ofChange lebRowsSpec)

/-- ITS FALSE NEIGHBOUR: 'it returns false'. Refute it at one input. -/
def lebRowsWrong : ChangeSpec := { name := "lebRows", fn := fun _ => fun
  | [d1, d2, d3] => { results := [.lit (.bool false)], args := [d1, d2, d3] }
  | _ => none }
def LebRowsWrongFalsely : Prop := lebRowsRow.holds Try.pinned (OpenSpec.ofChange lebRowsWrong)

/- THE SECOND FORM. 'bulk': how many values and letters a reading holds, each counted each time it is reached (what is shared counts as often as it is met; a slice's spare places count too). A statement '..UptoSaid' is the law's where the arguments, and the package variables that the reading takes, are together of bulk at most 1048576: NARROWER than '..Said'. Prove '..Said' where nothing that the law and all that it calls make is longer than what came in: it says more and counts as full. Else prove '..UptoSaid'. A law counts once. -/
mutual
def uptoBulk {H : Type} : DataW H → Nat
  | .lit (.string bytes) => bytes.length + 1
  | .lit _ => 1
  | .nil => 1
  | .ptr d => uptoBulk d + 1
  | .slice elems spare => uptoBulkAll elems + uptoBulkAll spare + 1
  | .agg parts => uptoBulkAll parts + 1
  | .iface _ d => uptoBulk d + 1
  | .map entries => uptoBulkEntries entries + 1
  | .held _ => 1
def uptoBulkAll {H : Type} : List (DataW H) → Nat
  | [] => 0
  | d :: r => uptoBulk d + uptoBulkAll r
def uptoBulkEntries {H : Type} : List (Lit × DataW H) → Nat
  | [] => 0
  | x :: r => uptoBulkEntry x + uptoBulkEntries r
def uptoBulkEntry {H : Type} : Lit × DataW H → Nat
  | (.string bytes, d) => bytes.length + uptoBulk d + 1
  | (_, d) => uptoBulk d + 1
 end
def uptoSmall : (H : Type) → List (DataW H) → Bool := fun _ ds => decide (uptoBulkAll ds ≤ 1048576)
def OpenSpec.upto (s : _root_.Go.ChangeSpec) : _root_.Go.OpenSpec := { _root_.Go.OpenSpec.ofChange s with cond := some uptoSmall }

/-- 'scarflaw01.LebPuts', WHERE WHAT IT READS IS OF BULK AT MOST 1048576: true; the input reads as it did. -/
def lebPutsUptoRow : OpenClaim := { program := "ytmoeibghjejneaa", sum := "47f31142282a3ae1a3213f7c1818664614cdbd38487c3744d5ac2a23f4391606", func := "scarf/scarflaw01.LebPuts", spec := "lebPuts", recurses := true, apart := false, narrowed := true }
def LebPutsUptoSaid : Prop := lebPutsUptoRow.holds Try.pinned (OpenSpec.upto lebPutsSpec)

/-- 'scarflaw01.LebBits', WHERE WHAT IT READS IS OF BULK AT MOST 1048576: true; the input reads as it did. -/
def lebBitsUptoRow : OpenClaim := { program := "ytmoeibghjejneaa", sum := "47f31142282a3ae1a3213f7c1818664614cdbd38487c3744d5ac2a23f4391606", func := "scarf/scarflaw01.LebBits", spec := "lebBits", apart := false, narrowed := true }
def LebBitsUptoSaid : Prop := lebBitsUptoRow.holds Try.pinned (OpenSpec.upto lebBitsSpec)

/-- 'scarflaw01.LebTakes', WHERE WHAT IT READS IS OF BULK AT MOST 1048576: true; the input reads as it did. -/
def lebTakesUptoRow : OpenClaim := { program := "ytmoeibghjejneaa", sum := "47f31142282a3ae1a3213f7c1818664614cdbd38487c3744d5ac2a23f4391606", func := "scarf/scarflaw01.LebTakes", spec := "lebTakes", apart := false, narrowed := true }
def LebTakesUptoSaid : Prop := lebTakesUptoRow.holds Try.pinned (OpenSpec.upto lebTakesSpec)

/-- 'scarflaw01.LebBack', WHERE WHAT IT READS IS OF BULK AT MOST 1048576: true; the input reads as it did. -/
def lebBackUptoRow : OpenClaim := { program := "ytmoeibghjejneaa", sum := "47f31142282a3ae1a3213f7c1818664614cdbd38487c3744d5ac2a23f4391606", func := "scarf/scarflaw01.LebBack", spec := "lebBack", apart := false, narrowed := true }
def LebBackUptoSaid : Prop := lebBackUptoRow.holds Try.pinned (OpenSpec.upto lebBackSpec)

/-- 'scarflaw01.LebShort', WHERE WHAT IT READS IS OF BULK AT MOST 1048576: true; the input reads as it did. -/
def lebShortUptoRow : OpenClaim := { program := "ytmoeibghjejneaa", sum := "47f31142282a3ae1a3213f7c1818664614cdbd38487c3744d5ac2a23f4391606", func := "scarf/scarflaw01.LebShort", spec := "lebShort", apart := false, narrowed := true }
def LebShortUptoSaid : Prop := lebShortUptoRow.holds Try.pinned (OpenSpec.upto lebShortSpec)

/-- 'scarflaw01.LebBytes', WHERE WHAT IT READS IS OF BULK AT MOST 1048576: true; the input reads as it did. -/
def lebBytesUptoRow : OpenClaim := { program := "ytmoeibghjejneaa", sum := "47f31142282a3ae1a3213f7c1818664614cdbd38487c3744d5ac2a23f4391606", func := "scarf/scarflaw01.LebBytes", spec := "lebBytes", recurses := true, apart := false, narrowed := true }
def LebBytesUptoSaid : Prop := lebBytesUptoRow.holds Try.pinned (OpenSpec.upto lebBytesSpec)

/-- 'scarflaw01.LebRows', WHERE WHAT IT READS IS OF BULK AT MOST 1048576: true; the input reads as it did. -/
def lebRowsUptoRow : OpenClaim := { program := "ytmoeibghjejneaa", sum := "47f31142282a3ae1a3213f7c1818664614cdbd38487c3744d5ac2a23f4391606", func := "scarf/scarflaw01.LebRows", spec := "lebRows", recurses := true, apart := false, narrowed := true }
def LebRowsUptoSaid : Prop := lebRowsUptoRow.holds Try.pinned (OpenSpec.upto lebRowsSpec)

end Rows
end Go.Proofs.Ytmoeibghjejneaa
