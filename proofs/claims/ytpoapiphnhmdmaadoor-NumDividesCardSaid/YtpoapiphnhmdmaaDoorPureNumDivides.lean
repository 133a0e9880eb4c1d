/- NumDivides, the plain side: a quotient and what is left of it make the number again; what is left is nearer to 0 than what was divided by, and has the number's sign. Conditions: the numbers are of 64 bits. -/
import Derived.Test.YtpoapiphnhmdmaaDoorPAx13
import Derived.Test.YtpoapiphnhmdmaaDoorNumN
namespace Go.Proofs.YtpoapiphnhmdmaaDoor.Pure
open Go.RowKit Go.Proofs.YtpoapiphnhmdmaaDoor.PA Go.Proofs.YtpoapiphnhmdmaaDoorW.PrintWords Go.Proofs.YtpoapiphnhmdmaaDoorW.PrintLast

theorem NumDivides : scarflaw03_NumDivides.Pure :=
  Go.Proofs.YtpoapiphnhmdmaaDoor.NumN.NumDivides

end Go.Proofs.YtpoapiphnhmdmaaDoor.Pure
