/- NumUns, the plain side: any opcode makes of any number the same for the program and for the reference, or is none that takes one. Conditions: the numbers are of 64 bits. -/
import Derived.Test.YtpoapiphnhmdmaaDoorPAx9
import Derived.Test.YtpoapiphnhmdmaaDoorNumE
namespace Go.Proofs.YtpoapiphnhmdmaaDoor.Pure
open Go.RowKit Go.Proofs.YtpoapiphnhmdmaaDoor.PA Go.Proofs.YtpoapiphnhmdmaaDoorW.PrintWords Go.Proofs.YtpoapiphnhmdmaaDoorW.PrintLast

theorem NumUns : scarflaw03_NumUns.Pure :=
  Go.Proofs.YtpoapiphnhmdmaaDoor.NumE.NumUns

end Go.Proofs.YtpoapiphnhmdmaaDoor.Pure
