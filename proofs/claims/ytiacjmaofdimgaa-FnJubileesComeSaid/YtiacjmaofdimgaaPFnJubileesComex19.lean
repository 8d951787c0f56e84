-- written by the print program turned for this claim
import Derived.Test.YtiacjmaofdimgaaPFnJubileesComex0
import Derived.Test.YtiacjmaofdimgaaPFnJubileesComex1
import Derived.Test.YtiacjmaofdimgaaPFnJubileesComex2
import Derived.Test.YtiacjmaofdimgaaPFnJubileesComex3
import Derived.Test.YtiacjmaofdimgaaPFnJubileesComex4
import Derived.Test.YtiacjmaofdimgaaPFnJubileesComex5
import Derived.Test.YtiacjmaofdimgaaPFnJubileesComex9
import Derived.Test.YtiacjmaofdimgaaPFnJubileesComex10
import Derived.Test.YtiacjmaofdimgaaPFnJubileesComex11
import Derived.Test.YtiacjmaofdimgaaPFnJubileesComex12
import Derived.Test.YtiacjmaofdimgaaPFnJubileesComex13
import Derived.Test.YtiacjmaofdimgaaPFnJubileesComex20
import Derived.Test.YtiacjmaofdimgaaPFnJubileesComex18
namespace Go.Proofs.Ytiacjmaofdimgaa.PFnJubileesCome
open Go.RowKit Go.Proofs.YtiacjmaofdimgaaW.PrintWords Go.Proofs.YtiacjmaofdimgaaW.PrintLast Go.Proofs.YtiacjmaofdimgaaW.PrintMore
attribute [local go_sem] max2_int min2_int max_two min_two max_three min_three max_four min_four   -- for this text's walks alone
set_option linter.unusedVariables false
set_option linter.unusedSimpArgs false

set_option maxHeartbeats 8000000 in
set_option maxRecDepth 100000 in
theorem laws_FnJubileesCome.calls (k : Nat) (A0 : Option Addr) (c0 : Nat) (l0 : List Int) (A1 : Option Addr) (c1 : Nat) (l1 : List Int) (w : World) (hr0 : Kd.C (Kd.int .u8) w A0 l0.length l0) (hc0 : l0.length ≤ c0) (hr1 : Kd.C (Kd.int .u8) w A1 l1.length l1) (hc1 : l1.length ≤ c1) (h : laws_FnJubileesCome.f k l0 l1 = some true) :
    Calls Try.prog 3 #[.slice A0 l0.length c0, .slice A1 l1.length c1] w fun e w' => e = .returned (.bool true) ∧ Below w.heap.size w w' := by
  go_enter Try.func3, Try.ntmps3
  exact laws_FnJubileesCome.st0 k A0 c0 l0 A1 c1 l1 w hr0 hc0 hr1 hc1 h (dropSeq 2 (Try.f3.body.getD .skip)) (fun a' wc hP => laws_FnJubileesCome.st2 A0 c0 l0 A1 c1 l1 w hr0 hc0 hr1 hc1 (dropSeq 5 (Try.f3.body.getD .skip)) (fun a' wc hP => laws_FnJubileesCome.st5 A0 c0 l0 A1 c1 l1 w hr0 hc0 hr1 hc1 (dropSeq 8 (Try.f3.body.getD .skip)) (fun a' wc hP => laws_FnJubileesCome.st8 A0 c0 l0 A1 c1 l1 w hr0 hc0 hr1 hc1 (dropSeq 11 (Try.f3.body.getD .skip)) (fun a' wc hP => laws_FnJubileesCome.st11 A0 c0 l0 A1 c1 l1 w hr0 hc0 hr1 hc1 (dropSeq 12 (Try.f3.body.getD .skip)) (fun a' wc hP => laws_FnJubileesCome.st12 A0 c0 l0 A1 c1 l1 w hr0 hc0 hr1 hc1 (dropSeq 13 (Try.f3.body.getD .skip)) (fun a' wc hP => laws_FnJubileesCome.st13 A0 c0 l0 A1 c1 l1 w hr0 hc0 hr1 hc1 (dropSeq 16 (Try.f3.body.getD .skip)) (fun a' wc hP => laws_FnJubileesCome.st16 A0 c0 l0 A1 c1 l1 w hr0 hc0 hr1 hc1 (dropSeq 19 (Try.f3.body.getD .skip)) (fun a' wc hP => laws_FnJubileesCome.st19 A0 c0 l0 A1 c1 l1 w hr0 hc0 hr1 hc1 (dropSeq 22 (Try.f3.body.getD .skip)) (fun a' wc hP => laws_FnJubileesCome.st22 A0 c0 l0 A1 c1 l1 w hr0 hc0 hr1 hc1 (dropSeq 25 (Try.f3.body.getD .skip)) (fun a' wc hP => laws_FnJubileesCome.st25 A0 c0 l0 A1 c1 l1 w hr0 hc0 hr1 hc1 (dropSeq 26 (Try.f3.body.getD .skip)) (fun a' wc hP => laws_FnJubileesCome.st26 A0 c0 l0 A1 c1 l1 w hr0 hc0 hr1 hc1 (dropSeq 27 (Try.f3.body.getD .skip)) (fun a' wc hP => laws_FnJubileesCome.st27 A0 c0 l0 A1 c1 l1 w hr0 hc0 hr1 hc1 (dropSeq 28 (Try.f3.body.getD .skip)) (fun a' wc hP => laws_FnJubileesCome.st28 A0 c0 l0 A1 c1 l1 w hr0 hc0 hr1 hc1 (dropSeq 29 (Try.f3.body.getD .skip)) (fun a' wc hP => laws_FnJubileesCome.st29 A0 c0 l0 A1 c1 l1 w hr0 hc0 hr1 hc1 (dropSeq 30 (Try.f3.body.getD .skip)) (fun a' wc hP => laws_FnJubileesCome.st30 A0 c0 l0 A1 c1 l1 w hr0 hc0 hr1 hc1 (dropSeq 31 (Try.f3.body.getD .skip)) (fun a' wc hP => laws_FnJubileesCome.st31 A0 c0 l0 A1 c1 l1 w hr0 hc0 hr1 hc1 (dropSeq 32 (Try.f3.body.getD .skip)) (fun a' wc hP => laws_FnJubileesCome.st32 A0 c0 l0 A1 c1 l1 w hr0 hc0 hr1 hc1 a' wc hP) a' wc hP) a' wc hP) a' wc hP) a' wc hP) a' wc hP) a' wc hP) a' wc hP) a' wc hP) a' wc hP) a' wc hP) a' wc hP) a' wc hP) a' wc hP) a' wc hP) a' wc hP) a' wc hP)

/-- THE ONE PURE STATEMENT of laws_FnJubileesCome: yours. -/
def laws_FnJubileesCome.Pure : Prop := ∀ (l0 : List Int) (l1 : List Int), l0.length ≤ maxLen → l0.length * 1 ≤ 140737488351232 → (∀ x ∈ l0, (Lit.int .u8 x).wf = true) → l1.length ≤ maxLen → l1.length * 1 ≤ 140737488351232 → (∀ x ∈ l1, (Lit.int .u8 x).wf = true) → ∃ k, laws_FnJubileesCome.f k l0 l1 = some true
theorem laws_FnJubileesCome.walk (P : laws_FnJubileesCome.Pure) (a0 : Option Addr) (len0 cap0 : Nat) (z0 : List Int) (a1 : Option Addr) (len1 cap1 : Nat) (z1 : List Int) (w : World) (w0 : (a0 = none ∧ len0 = 0 ∧ cap0 = 0 ∧ z0 = []) ∨ ∃ x, a0 = some x ∧ len0 ≤ cap0 ∧ cap0 ≤ maxLen ∧ z0.length = cap0 ∧ (∀ i, i < z0.length → w.cell? (x.add i) = some (.int .u8 (z0.getD i 0))) ∧ ∀ n ∈ z0, (Lit.int .u8 n).wf = true) (y0 : len0 * 1 ≤ 140737488351232) (w1 : (a1 = none ∧ len1 = 0 ∧ cap1 = 0 ∧ z1 = []) ∨ ∃ x, a1 = some x ∧ len1 ≤ cap1 ∧ cap1 ≤ maxLen ∧ z1.length = cap1 ∧ (∀ i, i < z1.length → w.cell? (x.add i) = some (.int .u8 (z1.getD i 0))) ∧ ∀ n ∈ z1, (Lit.int .u8 n).wf = true) (y1 : len1 * 1 ≤ 140737488351232) :
    Calls Try.prog 3 #[.slice a0 len0 cap0, .slice a1 len1 cap1] w fun e w' => e = .returned (.bool true) ∧ Below w.heap.size w w' := by
  obtain ⟨l0, rfl, hr0, hm0, hw0, hc0⟩ := ReadsInt.ofRowC w0
  obtain ⟨l1, rfl, hr1, hm1, hw1, hc1⟩ := ReadsInt.ofRowC w1
  obtain ⟨k, h⟩ := P l0 l1 hm0 y0 hw0 hm1 y1 hw1
  refine (laws_FnJubileesCome.calls k _ _ l0 _ _ l1 w (Kd.C_of_reads (d := (0 : Int)) (h1 := fun _ => rfl) hr0) hc0 (Kd.C_of_reads (d := (0 : Int)) (h1 := fun _ => rfl) hr1) hc1 h).mono ?_
  rintro e w' ⟨rfl, hd⟩
  exact ⟨rfl, hd⟩

end Go.Proofs.Ytiacjmaofdimgaa.PFnJubileesCome
