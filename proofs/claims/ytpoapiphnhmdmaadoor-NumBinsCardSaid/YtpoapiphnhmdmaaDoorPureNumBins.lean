/- NumBins, the plain side: any opcode makes of any two numbers what the document says, traps, or is none that takes two. Conditions: the numbers are of 64 bits. -/
import Derived.Test.YtpoapiphnhmdmaaDoorPAx11
import Derived.Test.YtpoapiphnhmdmaaDoorNumL
namespace Go.Proofs.YtpoapiphnhmdmaaDoor.Pure
open Go.RowKit Go.Proofs.YtpoapiphnhmdmaaDoor.PA Go.Proofs.YtpoapiphnhmdmaaDoorW.PrintWords Go.Proofs.YtpoapiphnhmdmaaDoorW.PrintLast

theorem NumBins : scarflaw03_NumBins.Pure :=
  Go.Proofs.YtpoapiphnhmdmaaDoor.NumL.NumBins

end Go.Proofs.YtpoapiphnhmdmaaDoor.Pure
