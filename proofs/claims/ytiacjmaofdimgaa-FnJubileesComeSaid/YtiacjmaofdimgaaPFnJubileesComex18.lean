-- written by the print program turned for this claim
import Derived.Test.YtiacjmaofdimgaaPFnJubileesComex0
import Derived.Test.YtiacjmaofdimgaaPFnJubileesComex5
import Derived.Test.YtiacjmaofdimgaaPFnJubileesComex8
import Derived.Test.YtiacjmaofdimgaaPFnJubileesComex9
import Derived.Test.YtiacjmaofdimgaaPFnJubileesComex14
import Derived.Test.YtiacjmaofdimgaaPFnJubileesComex15
import Derived.Test.YtiacjmaofdimgaaPFnJubileesComex16
import Derived.Test.YtiacjmaofdimgaaPFnJubileesComex17
namespace Go.Proofs.Ytiacjmaofdimgaa.PFnJubileesCome
open Go.RowKit Go.Proofs.YtiacjmaofdimgaaW.PrintWords Go.Proofs.YtiacjmaofdimgaaW.PrintLast Go.Proofs.YtiacjmaofdimgaaW.PrintMore
attribute [local go_sem] max2_int min2_int max_two min_two max_three min_three max_four min_four   -- for this text's walks alone
set_option linter.unusedVariables false
set_option linter.unusedSimpArgs false

set_option maxHeartbeats 40000000 in
set_option maxRecDepth 100000 in
theorem laws_FnJubileesCome.st26 (A0 : Option Addr) (c0 : Nat) (l0 : List Int) (A1 : Option Addr) (c1 : Nat) (l1 : List Int) (w : World) (hr0 : Kd.C (Kd.int .u8) w A0 l0.length l0) (hc0 : l0.length ≤ c0) (hr1 : Kd.C (Kd.int .u8) w A1 l1.length l1) (hc1 : l1.length ≤ c1) (R : Code) (hR : ∀ (a' : Act) (wc : World), laws_FnJubileesCome.pre27 A0 c0 l0 A1 c1 l1 w a' wc → Code.wp Try.prog R (bodyPost Try.prog Try.f3 (fun e w' => e = .returned (.bool true) ∧ Below w.heap.size w w')) a' wc) (a' : Act) (wc : World) (hP : laws_FnJubileesCome.pre26 A0 c0 l0 A1 c1 l1 w a' wc) :
    Code.wp Try.prog (laws_FnJubileesCome.code26 R) (bodyPost Try.prog Try.f3 (fun e w' => e = .returned (.bool true) ∧ Below w.heap.size w w')) a' wc := by
  have hP' := hP
  unfold laws_FnJubileesCome.pre26 at hP'
  obtain ⟨kq, x38_s26, x39_s26, x40_s26, x41_s26, x42_s26, x43_s26, x44_s26, x45_s26, x46_s26, x47_s26, x48_s26, x49_s26, x50_s26, x51_s26, x52_s26, x53_s26, x54_s26, x55_s26, x56_s26, x57_s26, x58_s26, x59_s26, x60_s26, x61_s26, x62_s26, x63_s26, x64_s26, x65_s26, x66_s26, x67_s26, x68_s26, u38, u45, u47, u55, u57, u59, u65, u67, ⟨hlen, hdef⟩, hq38, hq39, hq40, hq41, hq42, hq43, hq44, hq45, hq46, hq47, hq48, hq49, hq50, hq51, hq52, hq53, hq54, hq55, hq56, hq57, hq58, hq59, hq60, hq61, hq62, hq63, hq64, hq65, hq66, hq67, hq68, HA, HO_38, HO_45, HO_47, HO_55, HO_57, HO_59, HO_65, HO_67, HB⟩ := hP'
  cases x46_s26 with
  | false => exact laws_FnJubileesCome.st26a A0 c0 l0 A1 c1 l1 w hr0 hc0 hr1 hc1 R hR a' wc hq46 hP
  | true =>
    cases x42_s26 with
    | false => exact laws_FnJubileesCome.st26c A0 c0 l0 A1 c1 l1 w hr0 hc0 hr1 hc1 R hR a' wc hq46 hq42 hP
    | true => exact laws_FnJubileesCome.st26b A0 c0 l0 A1 c1 l1 w hr0 hc0 hr1 hc1 R hR a' wc hq46 hq42 hP
end Go.Proofs.Ytiacjmaofdimgaa.PFnJubileesCome
