/- The plain law of FnJubileesCome, joined from the M texts. -/
import Derived.Test.YtiacjmaofdimgaaPFnJubileesComex19
import Derived.Test.YtiacjmaofdimgaaM8
namespace Go.Proofs.Ytiacjmaofdimgaa.Pure
open Go.RowKit Go.Proofs.Ytiacjmaofdimgaa.PFnJubileesCome Go.Proofs.YtiacjmaofdimgaaW.PrintWords Go.Proofs.YtiacjmaofdimgaaW.PrintLast

theorem FnJubileesCome : laws_FnJubileesCome.Pure := by
  intro l0 l1 _ _ h0 _ _ h1
  exact law_v l0 l1 (bytes_of h0) (bytes_of h1)

end Go.Proofs.Ytiacjmaofdimgaa.Pure
