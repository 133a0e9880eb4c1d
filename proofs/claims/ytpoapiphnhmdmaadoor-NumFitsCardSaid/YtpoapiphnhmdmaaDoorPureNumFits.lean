/- NumFits, the plain side: what is left is a number of its type, and hangs on the lowest bits alone of what is taken. Conditions: the numbers are of 64 bits. -/
import Derived.Test.YtpoapiphnhmdmaaDoorPAx12
import Derived.Test.YtpoapiphnhmdmaaDoorNumG
namespace Go.Proofs.YtpoapiphnhmdmaaDoor.Pure
open Go.RowKit Go.Proofs.YtpoapiphnhmdmaaDoor.PA Go.Proofs.YtpoapiphnhmdmaaDoorW.PrintWords Go.Proofs.YtpoapiphnhmdmaaDoorW.PrintLast

theorem NumFits : scarflaw03_NumFits.Pure :=
  Go.Proofs.YtpoapiphnhmdmaaDoor.NumG.NumFits

end Go.Proofs.YtpoapiphnhmdmaaDoor.Pure
