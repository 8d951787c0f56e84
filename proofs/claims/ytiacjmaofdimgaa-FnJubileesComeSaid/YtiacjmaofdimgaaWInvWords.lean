import Derived.Test.YtiacjmaofdimgaaWInv
import Derived.Test.YtiacjmaofdimgaaWFootNe
namespace Go.Proofs.YtiacjmaofdimgaaW.PrintWords
open Go.RowKit
end Go.Proofs.YtiacjmaofdimgaaW.PrintWords
namespace Go.Proofs.YtiacjmaofdimgaaW.PrintLast
section
variable {ops : Array Oper} {a : Act} {o og : Oper} {g : Nat} {t : Tmp} {u : Bool}
end
end Go.Proofs.YtiacjmaofdimgaaW.PrintLast
