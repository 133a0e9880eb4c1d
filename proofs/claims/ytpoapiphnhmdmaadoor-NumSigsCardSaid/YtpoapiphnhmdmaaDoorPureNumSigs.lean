/- NumSigs, the plain side: any opcode takes and leaves the same for the program and for the reference; the lowest 32 bits are the same. Conditions: the numbers are of 64 bits. -/
import Derived.Test.YtpoapiphnhmdmaaDoorPAx6
import Derived.Test.YtpoapiphnhmdmaaDoorNumA
namespace Go.Proofs.YtpoapiphnhmdmaaDoor.Pure
open Go.RowKit Go.Proofs.YtpoapiphnhmdmaaDoor.PA Go.Proofs.YtpoapiphnhmdmaaDoorW.PrintWords Go.Proofs.YtpoapiphnhmdmaaDoorW.PrintLast

theorem NumSigs : scarflaw03_NumSigs.Pure :=
  Go.Proofs.YtpoapiphnhmdmaaDoor.NumA.NumSigs

end Go.Proofs.YtpoapiphnhmdmaaDoor.Pure
