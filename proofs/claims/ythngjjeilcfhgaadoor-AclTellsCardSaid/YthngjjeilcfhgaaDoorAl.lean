/- The first call of chapter 18's statements answers true. -/
import Derived.Test.YthngjjeilcfhgaaDoorPb
set_option linter.unusedVariables false
namespace Go.Proofs.YthngjjeilcfhgaaDoor
open Go.RowKit Go.Proofs.YthngjjeilcfhgaaDoorW.PrintWords Go.Proofs.YthngjjeilcfhgaaDoorW.PrintLast
set_option maxRecDepth 100000
theorem alive_true : Pb.escutcheonlaw18_alive.f 60 = some true := by decide +kernel
end Go.Proofs.YthngjjeilcfhgaaDoor
