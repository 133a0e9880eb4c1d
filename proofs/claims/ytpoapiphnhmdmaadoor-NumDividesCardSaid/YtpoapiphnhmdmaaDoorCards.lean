/-
  DERIVED. GIVEN WITH THE SEED: THE CARDS: each row of YtpoapiphnhmdmaaDoorRows.lean that lists a variable, with what it lists TIED to the program's text (the seventh form; the later family's looks); each row that meets fmt, with fmt's text TOLD by the authors' own Lean function (tested against real Go, not proved from fmt's source: count such statements apart). THE CARD IS WHAT COUNTS. Prove the row's statement (the work); the ties are given (YtpoapiphnhmdmaaDoorTie.lean); close each card by the builder's one call (the guide's Derived/Test/ToyasCard.lean, 'card_holds'). Laid BY PROGRAM, IN A SANDBOX (cutbox-door.mjs). By AI agents, Wed Nov 11 2026. No macro, syntax, notation, axiom, sorry.
-/
import Derived.Test.YtpoapiphnhmdmaaDoorRows
import GoSem.ClaimSeven
namespace Go.Proofs.YtpoapiphnhmdmaaDoor
namespace Rows

/-- THE TIED CARD OF 'scarflaw03.NumSigs'. -/
def numSigsCard : Claim7 := { stood := { row := numSigsRow, standIns := [], harness := (true, "42e88015d8940096e27b999197c12fe56f0888e25f3980683ee09002249b843a"), looks := false }, kinds := [], alts := [], laidByText := true, laidKinds := [.data, .data], laidTests := true, laidLooks := .later }
def NumSigsCardSaid : Prop := Claim7.holds Tryd.pinned (.plain (OpenSpec.ofChange numSigsSpec)) numSigsCard

/-- THE TIED CARD OF 'scarflaw03.NumUns'. -/
def numUnsCard : Claim7 := { stood := { row := numUnsRow, standIns := [], harness := (true, "42e88015d8940096e27b999197c12fe56f0888e25f3980683ee09002249b843a"), looks := false }, kinds := [], alts := [], laidByText := true, laidKinds := [.data, .data], laidTests := true, laidLooks := .later }
def NumUnsCardSaid : Prop := Claim7.holds Tryd.pinned (.plain (OpenSpec.ofChange numUnsSpec)) numUnsCard

/-- THE TIED CARD OF 'scarflaw03.NumBins'. -/
def numBinsCard : Claim7 := { stood := { row := numBinsRow, standIns := [], harness := (true, "42e88015d8940096e27b999197c12fe56f0888e25f3980683ee09002249b843a"), looks := false }, kinds := [], alts := [], laidByText := true, laidKinds := [.data, .data], laidTests := true, laidLooks := .later }
def NumBinsCardSaid : Prop := Claim7.holds Tryd.pinned (.plain (OpenSpec.ofChange numBinsSpec)) numBinsCard

/-- THE TIED CARD OF 'scarflaw03.NumFits'. -/
def numFitsCard : Claim7 := { stood := { row := numFitsRow, standIns := [], harness := (true, "42e88015d8940096e27b999197c12fe56f0888e25f3980683ee09002249b843a"), looks := false }, kinds := [], alts := [], laidByText := true, laidKinds := [.data, .data], laidTests := true, laidLooks := .later }
def NumFitsCardSaid : Prop := Claim7.holds Tryd.pinned (.plain (OpenSpec.ofChange numFitsSpec)) numFitsCard

/-- THE TIED CARD OF 'scarflaw03.NumDivides'. -/
def numDividesCard : Claim7 := { stood := { row := numDividesRow, standIns := [], harness := (true, "42e88015d8940096e27b999197c12fe56f0888e25f3980683ee09002249b843a"), looks := false }, kinds := [], alts := [], laidByText := true, laidKinds := [.data, .data], laidTests := true, laidLooks := .later }
def NumDividesCardSaid : Prop := Claim7.holds Tryd.pinned (.plain (OpenSpec.ofChange numDividesSpec)) numDividesCard

/-- THE TIED CARD OF 'scarflaw03.NumTurns'. -/
def numTurnsCard : Claim7 := { stood := { row := numTurnsRow, standIns := [], harness := (true, "42e88015d8940096e27b999197c12fe56f0888e25f3980683ee09002249b843a"), looks := false }, kinds := [], alts := [], laidByText := true, laidKinds := [.data, .data], laidTests := true, laidLooks := .later }
def NumTurnsCardSaid : Prop := Claim7.holds Tryd.pinned (.plain (OpenSpec.ofChange numTurnsSpec)) numTurnsCard

/-- THE SECOND FORM's CARD OF 'scarflaw03.NumSigs'. -/
def numSigsUptoCard : Claim7 := { stood := { row := numSigsUptoRow, standIns := [], harness := (true, "42e88015d8940096e27b999197c12fe56f0888e25f3980683ee09002249b843a"), looks := false }, kinds := [], alts := [], laidByText := true, laidKinds := [.data, .data], laidTests := true, laidLooks := .later }
def NumSigsUptoCardSaid : Prop := Claim7.holds Tryd.pinned (.plain (OpenSpec.upto numSigsSpec)) numSigsUptoCard

/-- THE SECOND FORM's CARD OF 'scarflaw03.NumUns'. -/
def numUnsUptoCard : Claim7 := { stood := { row := numUnsUptoRow, standIns := [], harness := (true, "42e88015d8940096e27b999197c12fe56f0888e25f3980683ee09002249b843a"), looks := false }, kinds := [], alts := [], laidByText := true, laidKinds := [.data, .data], laidTests := true, laidLooks := .later }
def NumUnsUptoCardSaid : Prop := Claim7.holds Tryd.pinned (.plain (OpenSpec.upto numUnsSpec)) numUnsUptoCard

/-- THE SECOND FORM's CARD OF 'scarflaw03.NumBins'. -/
def numBinsUptoCard : Claim7 := { stood := { row := numBinsUptoRow, standIns := [], harness := (true, "42e88015d8940096e27b999197c12fe56f0888e25f3980683ee09002249b843a"), looks := false }, kinds := [], alts := [], laidByText := true, laidKinds := [.data, .data], laidTests := true, laidLooks := .later }
def NumBinsUptoCardSaid : Prop := Claim7.holds Tryd.pinned (.plain (OpenSpec.upto numBinsSpec)) numBinsUptoCard

/-- THE SECOND FORM's CARD OF 'scarflaw03.NumFits'. -/
def numFitsUptoCard : Claim7 := { stood := { row := numFitsUptoRow, standIns := [], harness := (true, "42e88015d8940096e27b999197c12fe56f0888e25f3980683ee09002249b843a"), looks := false }, kinds := [], alts := [], laidByText := true, laidKinds := [.data, .data], laidTests := true, laidLooks := .later }
def NumFitsUptoCardSaid : Prop := Claim7.holds Tryd.pinned (.plain (OpenSpec.upto numFitsSpec)) numFitsUptoCard

/-- THE SECOND FORM's CARD OF 'scarflaw03.NumDivides'. -/
def numDividesUptoCard : Claim7 := { stood := { row := numDividesUptoRow, standIns := [], harness := (true, "42e88015d8940096e27b999197c12fe56f0888e25f3980683ee09002249b843a"), looks := false }, kinds := [], alts := [], laidByText := true, laidKinds := [.data, .data], laidTests := true, laidLooks := .later }
def NumDividesUptoCardSaid : Prop := Claim7.holds Tryd.pinned (.plain (OpenSpec.upto numDividesSpec)) numDividesUptoCard

/-- THE SECOND FORM's CARD OF 'scarflaw03.NumTurns'. -/
def numTurnsUptoCard : Claim7 := { stood := { row := numTurnsUptoRow, standIns := [], harness := (true, "42e88015d8940096e27b999197c12fe56f0888e25f3980683ee09002249b843a"), looks := false }, kinds := [], alts := [], laidByText := true, laidKinds := [.data, .data], laidTests := true, laidLooks := .later }
def NumTurnsUptoCardSaid : Prop := Claim7.holds Tryd.pinned (.plain (OpenSpec.upto numTurnsSpec)) numTurnsUptoCard
end Rows
end Go.Proofs.YtpoapiphnhmdmaaDoor
