/- NumTurns, the plain side: what is turned up by some bits, and down by as many, is as it was, and has as many bits that are 1; up by some is down by the rest. Conditions: the numbers are of 64 bits. -/
import Derived.Test.YtpoapiphnhmdmaaDoorPAx14
import Derived.Test.YtpoapiphnhmdmaaDoorNumI
namespace Go.Proofs.YtpoapiphnhmdmaaDoor.Pure
open Go.RowKit Go.Proofs.YtpoapiphnhmdmaaDoor.PA Go.Proofs.YtpoapiphnhmdmaaDoorW.PrintWords Go.Proofs.YtpoapiphnhmdmaaDoorW.PrintLast

theorem NumTurns : scarflaw03_NumTurns.Pure :=
  Go.Proofs.YtpoapiphnhmdmaaDoor.NumI.NumTurns

end Go.Proofs.YtpoapiphnhmdmaaDoor.Pure
