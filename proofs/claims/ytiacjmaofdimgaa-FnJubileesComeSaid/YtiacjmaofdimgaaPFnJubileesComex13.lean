-- written by the print program turned for this claim
import Derived.Test.YtiacjmaofdimgaaPFnJubileesComex0
import Derived.Test.YtiacjmaofdimgaaPFnJubileesComex1
import Derived.Test.YtiacjmaofdimgaaPFnJubileesComex2
import Derived.Test.YtiacjmaofdimgaaPFnJubileesComex3
import Derived.Test.YtiacjmaofdimgaaPFnJubileesComex4
import Derived.Test.YtiacjmaofdimgaaPFnJubileesComex5
import Derived.Test.YtiacjmaofdimgaaPFnJubileesComex9
namespace Go.Proofs.Ytiacjmaofdimgaa.PFnJubileesCome
open Go.RowKit Go.Proofs.YtiacjmaofdimgaaW.PrintWords Go.Proofs.YtiacjmaofdimgaaW.PrintLast Go.Proofs.YtiacjmaofdimgaaW.PrintMore
attribute [local go_sem] max2_int min2_int max_two min_two max_three min_three max_four min_four   -- for this text's walks alone
set_option linter.unusedVariables false
set_option linter.unusedSimpArgs false

noncomputable def laws_FnJubileesCome.code11 (R : Code) : Code := withTail 1 (dropSeq 11 (Try.f3.body.getD .skip)) R
set_option maxHeartbeats 40000000 in
set_option maxRecDepth 100000 in
theorem laws_FnJubileesCome.st11 (A0 : Option Addr) (c0 : Nat) (l0 : List Int) (A1 : Option Addr) (c1 : Nat) (l1 : List Int) (w : World) (hr0 : Kd.C (Kd.int .u8) w A0 l0.length l0) (hc0 : l0.length ≤ c0) (hr1 : Kd.C (Kd.int .u8) w A1 l1.length l1) (hc1 : l1.length ≤ c1) (R : Code) (hR : ∀ (a' : Act) (wc : World), laws_FnJubileesCome.pre12 A0 c0 l0 A1 c1 l1 w a' wc → Code.wp Try.prog R (bodyPost Try.prog Try.f3 (fun e w' => e = .returned (.bool true) ∧ Below w.heap.size w w')) a' wc) (a' : Act) (wc : World) (hP : laws_FnJubileesCome.pre11 A0 c0 l0 A1 c1 l1 w a' wc) :
    Code.wp Try.prog (laws_FnJubileesCome.code11 R) (bodyPost Try.prog Try.f3 (fun e w' => e = .returned (.bool true) ∧ Below w.heap.size w w')) a' wc := by
  have HR0 := Aside0.mk hr0
  have HC0 := Aside0.mk hc0
  clear hr0 hc0
  have HR1 := Aside0.mk hr1
  have HC1 := Aside0.mk hc1
  clear hr1 hc1
  unfold laws_FnJubileesCome.pre11 at hP
  obtain ⟨kq, x5_s11, x6_s11, x7_s11, x8_s11, x9_s11, x10_s11, x11_s11, x12_s11, x13_s11, x14_s11, x15_s11, x16_s11, x17_s11, x18_s11, x19_s11, x20_s11, x21_s11, x22_s11, x23_s11, x24_s11, x25_s11, x26_s11, x27_s11, x28_s11, u5, u9, u11, ⟨hlen, hdef⟩, hq1, hq5, hq6, hq7, hq8, hq9, hq10, hq11, hq12, hq13, hq14, hq15, hq16, hq17, hq18, hq19, hq20, hq21, hq22, hq23, hq24, hq25, hq26, hq27, hq28, HA, HO_5, HO_9, HO_11, HB⟩ := hP
  obtain ⟨uf, rfl⟩ := laws_FnJubileesCome.frame a' hlen hdef
  clear hlen hdef
  have he1 : uf 1 = (.slice A1 l1.length c1) := hq1
  clear hq1
  have he5 : uf 5 = u5 := hq5
  clear hq5
  have he6 : uf 6 = .int .i64 x6_s11 := hq6
  clear hq6
  have he7 : uf 7 = .int .i64 x7_s11 := hq7
  clear hq7
  have he8 : uf 8 = .int .i64 x8_s11 := hq8
  clear hq8
  have he9 : uf 9 = u9 := hq9
  clear hq9
  have he10 : uf 10 = .bool x10_s11 := hq10
  clear hq10
  have he11 : uf 11 = u11 := hq11
  clear hq11
  have he12 : uf 12 = .bool x12_s11 := hq12
  clear hq12
  have he13 : uf 13 = .int .i64 x13_s11 := hq13
  clear hq13
  have he14 : uf 14 = .bool x14_s11 := hq14
  clear hq14
  have he15 : uf 15 = .int .i64 x15_s11 := hq15
  clear hq15
  have he16 : uf 16 = .bool x16_s11 := hq16
  clear hq16
  have he17 : uf 17 = .int .i64 x17_s11 := hq17
  clear hq17
  have he18 : uf 18 = .int .i64 x18_s11 := hq18
  clear hq18
  have he19 : uf 19 = .bool x19_s11 := hq19
  clear hq19
  have he20 : uf 20 = .int .i64 x20_s11 := hq20
  clear hq20
  have he21 : uf 21 = .int .i64 x21_s11 := hq21
  clear hq21
  have he22 : uf 22 = .bool x22_s11 := hq22
  clear hq22
  have he23 : uf 23 = .int .i64 x23_s11 := hq23
  clear hq23
  have he24 : uf 24 = .int .i64 x24_s11 := hq24
  clear hq24
  have he25 : uf 25 = .bool x25_s11 := hq25
  clear hq25
  have he26 : uf 26 = .int .i64 x26_s11 := hq26
  clear hq26
  have he27 : uf 27 = .int .i64 x27_s11 := hq27
  clear hq27
  have he28 : uf 28 = .bool x28_s11 := hq28
  clear hq28
  simp only [he1, he5, he6, he7, he8, he9, he10, he11, he12, he13, he14, he15, he16, he17, he18, he19, he20, he21, he22, he23, he24, he25, he26, he27, he28]
  clear he1 he5 he6 he7 he8 he9 he10 he11 he12 he13 he14 he15 he16 he17 he18 he19 he20 he21 he22 he23 he24 he25 he26 he27 he28
  dsimp only [laws_FnJubileesCome.code11, withTail, dropSeq, Try.f3, Option.getD]
  rcases kq with _ | kj_s11
  · exact absurd HA.out (by simp [laws_FnJubileesCome.j3])
  have H := HA.out
  clear HA
  simp only [laws_FnJubileesCome.j3] at H
  by_cases c26 : (x10_s11 != x12_s11) = true
  · rw [if_pos c26] at H
    have c26b0 : (x10_s11 != x12_s11) = true := c26
    (try (have c26b1 : decide (x10_s11 = x12_s11) = false := by simpa using c26))
    (try (have c26b2 : (x10_s11 == x12_s11) = false := by simpa using c26))
    (try (have c26b3 : ¬ (x10_s11 = x12_s11) := by simpa using c26))
    clear c26
    exact absurd H (by simp)
  rw [if_neg c26] at H
  have c26b0 : (x10_s11 != x12_s11) = false := by simpa using c26
  (try (have c26b1 : decide (x10_s11 = x12_s11) = true := by simpa using c26))
  (try (have c26b2 : (x10_s11 == x12_s11) = true := by simpa using c26))
  clear c26
  replace H := Option.bind_eq_some_iff.mp H
  obtain ⟨t467, A270, H⟩ := H
  (try dsimp only at H)
  have A27 := Aside0.mk A270
  clear A270
  by_cases c28 : t467 = true
  rotate_left
  · replace c28 := Bool.eq_false_iff.mpr c28
    subst c28
    have H1 : (some false) = some true := by rw [if_neg (show ¬ (false = true) by decide)] at H; first | done | exact H
    clear H
    have H := H1
    clear H1
    exact absurd H (by simp)
  subst c28
  have H1 : (if (x14_s11 != x16_s11) = true then (some false) else (if x13_s11 = x15_s11 then (if (x19_s11 != x22_s11) = true then (some false) else (if x17_s11 = x20_s11 then (if x18_s11 = x21_s11 then (if (x25_s11 != x28_s11) = true then (some false) else (if x23_s11 = x26_s11 then (if x24_s11 = x27_s11 then (if (x14_s11 != x10_s11) = true then (some false) else (if (x19_s11 != x10_s11) = true then (some false) else (if x10_s11 = true then (if (x25_s11 != (decide ((x9_s11.length : Int) < (wrap64 ((wrap64 (x7_s11 - x6_s11)) + 1))))) = true then (some false) else ((impl_AreBirths.f x5_s11).bind fun t468 => (if t468 = true then ((impl_AreBirths.f x5_s11).bind fun t469 => ((spec_AreBirths.f kj_s11 x5_s11).bind fun t470 => (if (t469 != t470) = true then (some false) else (laws_FnJubileesCome.j4 kj_s11 l1 x5_s11 x6_s11 x7_s11 x8_s11 x9_s11 x10_s11 x13_s11 x17_s11 x18_s11 x23_s11 x24_s11 x25_s11)))) else (some false)))) else (if (x25_s11 != false) = true then (some false) else ((impl_AreBirths.f x5_s11).bind fun t471 => ((spec_AreBirths.f kj_s11 x5_s11).bind fun t472 => (if (t471 != t472) = true then (some false) else (laws_FnJubileesCome.j4 kj_s11 l1 x5_s11 x6_s11 x7_s11 x8_s11 x9_s11 x10_s11 x13_s11 x17_s11 x18_s11 x23_s11 x24_s11 x25_s11)))))))) else (some false)) else (some false))) else (some false)) else (some false))) else (some false))) = some true := by rw [if_pos rfl] at H; first | done | exact H
  clear H
  have H := H1
  clear H1
  by_cases c29 : (x14_s11 != x16_s11) = true
  · rw [if_pos c29] at H
    have c29b0 : (x14_s11 != x16_s11) = true := c29
    (try (have c29b1 : decide (x14_s11 = x16_s11) = false := by simpa using c29))
    (try (have c29b2 : (x14_s11 == x16_s11) = false := by simpa using c29))
    (try (have c29b3 : ¬ (x14_s11 = x16_s11) := by simpa using c29))
    clear c29
    exact absurd H (by simp)
  rw [if_neg c29] at H
  have c29b0 : (x14_s11 != x16_s11) = false := by simpa using c29
  (try (have c29b1 : decide (x14_s11 = x16_s11) = true := by simpa using c29))
  (try (have c29b2 : (x14_s11 == x16_s11) = true := by simpa using c29))
  clear c29
  by_cases c30 : x13_s11 = x15_s11
  rotate_left
  · rw [if_neg c30] at H
    have c30b0 : (x13_s11 == x15_s11) = false := beq_eq_false_iff_ne.mpr c30
    have c30b1 : (x13_s11 != x15_s11) = true := bne_iff_ne.mpr c30
    exact absurd H (by simp)
  rw [if_pos c30] at H
  have c30b0 : (x13_s11 == x15_s11) = true := beq_iff_eq.mpr c30
  have c30b1 : (x13_s11 != x15_s11) = false := bne_eq_false_iff_eq.mpr c30
  clear c30
  by_cases c31 : (x19_s11 != x22_s11) = true
  · rw [if_pos c31] at H
    have c31b0 : (x19_s11 != x22_s11) = true := c31
    (try (have c31b1 : decide (x19_s11 = x22_s11) = false := by simpa using c31))
    (try (have c31b2 : (x19_s11 == x22_s11) = false := by simpa using c31))
    (try (have c31b3 : ¬ (x19_s11 = x22_s11) := by simpa using c31))
    clear c31
    exact absurd H (by simp)
  rw [if_neg c31] at H
  have c31b0 : (x19_s11 != x22_s11) = false := by simpa using c31
  (try (have c31b1 : decide (x19_s11 = x22_s11) = true := by simpa using c31))
  (try (have c31b2 : (x19_s11 == x22_s11) = true := by simpa using c31))
  clear c31
  by_cases c32 : x17_s11 = x20_s11
  rotate_left
  · rw [if_neg c32] at H
    have c32b0 : (x17_s11 == x20_s11) = false := beq_eq_false_iff_ne.mpr c32
    have c32b1 : (x17_s11 != x20_s11) = true := bne_iff_ne.mpr c32
    exact absurd H (by simp)
  rw [if_pos c32] at H
  have c32b0 : (x17_s11 == x20_s11) = true := beq_iff_eq.mpr c32
  have c32b1 : (x17_s11 != x20_s11) = false := bne_eq_false_iff_eq.mpr c32
  clear c32
  by_cases c33 : x18_s11 = x21_s11
  rotate_left
  · rw [if_neg c33] at H
    have c33b0 : (x18_s11 == x21_s11) = false := beq_eq_false_iff_ne.mpr c33
    have c33b1 : (x18_s11 != x21_s11) = true := bne_iff_ne.mpr c33
    exact absurd H (by simp)
  rw [if_pos c33] at H
  have c33b0 : (x18_s11 == x21_s11) = true := beq_iff_eq.mpr c33
  have c33b1 : (x18_s11 != x21_s11) = false := bne_eq_false_iff_eq.mpr c33
  clear c33
  by_cases c34 : (x25_s11 != x28_s11) = true
  · rw [if_pos c34] at H
    have c34b0 : (x25_s11 != x28_s11) = true := c34
    (try (have c34b1 : decide (x25_s11 = x28_s11) = false := by simpa using c34))
    (try (have c34b2 : (x25_s11 == x28_s11) = false := by simpa using c34))
    (try (have c34b3 : ¬ (x25_s11 = x28_s11) := by simpa using c34))
    clear c34
    exact absurd H (by simp)
  rw [if_neg c34] at H
  have c34b0 : (x25_s11 != x28_s11) = false := by simpa using c34
  (try (have c34b1 : decide (x25_s11 = x28_s11) = true := by simpa using c34))
  (try (have c34b2 : (x25_s11 == x28_s11) = true := by simpa using c34))
  clear c34
  by_cases c35 : x23_s11 = x26_s11
  rotate_left
  · rw [if_neg c35] at H
    have c35b0 : (x23_s11 == x26_s11) = false := beq_eq_false_iff_ne.mpr c35
    have c35b1 : (x23_s11 != x26_s11) = true := bne_iff_ne.mpr c35
    exact absurd H (by simp)
  rw [if_pos c35] at H
  have c35b0 : (x23_s11 == x26_s11) = true := beq_iff_eq.mpr c35
  have c35b1 : (x23_s11 != x26_s11) = false := bne_eq_false_iff_eq.mpr c35
  clear c35
  by_cases c36 : x24_s11 = x27_s11
  rotate_left
  · rw [if_neg c36] at H
    have c36b0 : (x24_s11 == x27_s11) = false := beq_eq_false_iff_ne.mpr c36
    have c36b1 : (x24_s11 != x27_s11) = true := bne_iff_ne.mpr c36
    exact absurd H (by simp)
  rw [if_pos c36] at H
  have c36b0 : (x24_s11 == x27_s11) = true := beq_iff_eq.mpr c36
  have c36b1 : (x24_s11 != x27_s11) = false := bne_eq_false_iff_eq.mpr c36
  clear c36
  by_cases c37 : (x14_s11 != x10_s11) = true
  · rw [if_pos c37] at H
    have c37b0 : (x14_s11 != x10_s11) = true := c37
    (try (have c37b1 : decide (x14_s11 = x10_s11) = false := by simpa using c37))
    (try (have c37b2 : (x14_s11 == x10_s11) = false := by simpa using c37))
    (try (have c37b3 : ¬ (x14_s11 = x10_s11) := by simpa using c37))
    clear c37
    exact absurd H (by simp)
  rw [if_neg c37] at H
  have c37b0 : (x14_s11 != x10_s11) = false := by simpa using c37
  (try (have c37b1 : decide (x14_s11 = x10_s11) = true := by simpa using c37))
  (try (have c37b2 : (x14_s11 == x10_s11) = true := by simpa using c37))
  clear c37
  by_cases c38 : (x19_s11 != x10_s11) = true
  · rw [if_pos c38] at H
    have c38b0 : (x19_s11 != x10_s11) = true := c38
    (try (have c38b1 : decide (x19_s11 = x10_s11) = false := by simpa using c38))
    (try (have c38b2 : (x19_s11 == x10_s11) = false := by simpa using c38))
    (try (have c38b3 : ¬ (x19_s11 = x10_s11) := by simpa using c38))
    clear c38
    exact absurd H (by simp)
  rw [if_neg c38] at H
  have c38b0 : (x19_s11 != x10_s11) = false := by simpa using c38
  (try (have c38b1 : decide (x19_s11 = x10_s11) = true := by simpa using c38))
  (try (have c38b2 : (x19_s11 == x10_s11) = true := by simpa using c38))
  clear c38
  by_cases c39 : x10_s11 = true
  rotate_left
  · replace c39 := Bool.eq_false_iff.mpr c39
    subst c39
    have H1 : (if (x25_s11 != false) = true then (some false) else ((impl_AreBirths.f x5_s11).bind fun t471 => ((spec_AreBirths.f kj_s11 x5_s11).bind fun t472 => (if (t471 != t472) = true then (some false) else (laws_FnJubileesCome.j4 kj_s11 l1 x5_s11 x6_s11 x7_s11 x8_s11 x9_s11 false x13_s11 x17_s11 x18_s11 x23_s11 x24_s11 x25_s11))))) = some true := by rw [if_neg (show ¬ (false = true) by decide)] at H; first | done | exact H
    clear H
    have H := H1
    clear H1
    by_cases c51 : (x25_s11 != false) = true
    · rw [if_pos c51] at H
      have c51b0 : (x25_s11 != false) = true := c51
      (try (have c51b1 : decide (x25_s11 = false) = false := by simpa using c51))
      (try (have c51b2 : (x25_s11 == false) = false := by simpa using c51))
      (try (have c51b3 : ¬ (x25_s11 = false) := by simpa using c51))
      clear c51
      exact absurd H (by simp)
    rw [if_neg c51] at H
    have c51b0 : (x25_s11 != false) = false := by simpa using c51
    (try (have c51b1 : decide (x25_s11 = false) = true := by simpa using c51))
    (try (have c51b2 : (x25_s11 == false) = true := by simpa using c51))
    clear c51
    replace H := Option.bind_eq_some_iff.mp H
    obtain ⟨t471, A520, H⟩ := H
    replace H : ((spec_AreBirths.f kj_s11 x5_s11).bind fun t472 => (if (t471 != t472) = true then (some false) else (laws_FnJubileesCome.j4 kj_s11 l1 x5_s11 x6_s11 x7_s11 x8_s11 x9_s11 false x13_s11 x17_s11 x18_s11 x23_s11 x24_s11 x25_s11))) = some true := H
    have A52 := Aside0.mk A520
    clear A520
    replace H := Option.bind_eq_some_iff.mp H
    obtain ⟨t472, A530, H⟩ := H
    replace H : (if (t471 != t472) = true then (some false) else (laws_FnJubileesCome.j4 kj_s11 l1 x5_s11 x6_s11 x7_s11 x8_s11 x9_s11 false x13_s11 x17_s11 x18_s11 x23_s11 x24_s11 x25_s11)) = some true := H
    have A53 := Aside0.mk A530
    clear A530
    by_cases c54 : (t471 != t472) = true
    · rw [if_pos c54] at H
      have c54b0 : (t471 != t472) = true := c54
      (try (have c54b1 : decide (t471 = t472) = false := by simpa using c54))
      (try (have c54b2 : (t471 == t472) = false := by simpa using c54))
      (try (have c54b3 : ¬ (t471 = t472) := by simpa using c54))
      clear c54
      exact absurd H (by simp)
    rw [if_neg c54] at H
    have c54b0 : (t471 != t472) = false := by simpa using c54
    (try (have c54b1 : decide (t471 = t472) = true := by simpa using c54))
    (try (have c54b2 : (t471 == t472) = true := by simpa using c54))
    clear c54
    have H' := Aside0.mk H
    clear H
    obtain ⟨Ao55, co55, eo55⟩ := Kd.S_slice HO_9.out
    subst eo55
    obtain ⟨Ao56, co56, eo56⟩ := Kd.S_slice HO_11.out
    subst eo56
    go_wp2_with (first | (go_at_call 14; (with_reducible refine (laws_qRows.calls kj_s11 _ _ x9_s11 _ _ x11_s11 true _ ?side1 ?side2 ?side3 ?side4 A27.out).mono ?_); (case side1 => repeat (first | exact (Kd.S_reads' HO_9.out).2.2 | (with_reducible refine Kd.C_alloc ?_ _) | (with_reducible refine Kd.C_drewN ?_ _) | (with_reducible refine Kd.C_drew ?_))); (case side2 => exact (Kd.S_reads' HO_9.out).2.1); (case side3 => repeat (first | exact (Kd.S_reads' HO_11.out).2.2 | (with_reducible refine Kd.C_alloc ?_ _) | (with_reducible refine Kd.C_drewN ?_ _) | (with_reducible refine Kd.C_drew ?_))); (case side4 => exact (Kd.S_reads' HO_11.out).2.1); rintro e w' ⟨rfl, ⟨nd, rfl⟩⟩; obtain ⟨Ao57, co57, eo57⟩ := Kd.R_slice HO_5.out; subst eo57) | (go_at_call 15; (with_reducible refine (impl_AreBirths.calls _ _ x5_s11 t471 _ ?side1 ?side2 A52.out).mono ?_); (case side1 => repeat (first | exact (Kd.R_reads' HO_5.out).2.2 | (with_reducible refine Kd.C_alloc ?_ _) | (with_reducible refine Kd.C_drewN ?_ _) | (with_reducible refine Kd.C_drew ?_))); (case side2 => exact (Kd.R_reads' HO_5.out).2.1); rintro e w58 ⟨rfl, hb⟩; have n0_ := Aside0.mk (Kd.R_below (by (with_reducible repeat (first | apply Kd.R_alloc | apply Kd.R_drewN | apply Kd.R_drew)); exact HO_5.out) hb); have n1_ := Aside0.mk (Kd.S_below (by (with_reducible repeat (first | apply Kd.S_alloc | apply Kd.S_drewN | apply Kd.S_drew)); exact HO_9.out) hb); have n2_ := Aside0.mk (Kd.S_below (by (with_reducible repeat (first | apply Kd.S_alloc | apply Kd.S_drewN | apply Kd.S_drew)); exact HO_11.out) hb); have n3_ := Aside0.mk (below_step (by repeat (first | (with_reducible first | exact HB.out | apply below_alloc | apply pw_below_drewN | apply below_drew1) | exact HB.out)) hb); clear HO_5; clear HO_9; clear HO_11; clear HB; have HO_5 := n0_; have HO_9 := n1_; have HO_11 := n2_; have HB := n3_; clear n0_ n1_ n2_ n3_; (try clear hb); (try clear hb2); (try clear hk); (try clear hi)) | (go_at_call 16; (with_reducible refine (spec_AreBirths.calls kj_s11 _ _ x5_s11 t472 _ ?side1 ?side2 A53.out).mono ?_); (case side1 => repeat (first | exact (Kd.R_reads' HO_5.out).2.2 | (with_reducible refine Kd.C_alloc ?_ _) | (with_reducible refine Kd.C_drewN ?_ _) | (with_reducible refine Kd.C_drew ?_))); (case side2 => exact (Kd.R_reads' HO_5.out).2.1); rintro e w' ⟨rfl, ⟨nd, rfl⟩⟩))
    refine hR _ _ ?_
    unfold laws_FnJubileesCome.pre12
    exact ⟨_, (x5_s11), (x6_s11), (x7_s11), (x8_s11), (x9_s11), (false), (x13_s11), (x17_s11), (x18_s11), (x23_s11), (x24_s11), (x25_s11), (.slice Ao57 x5_s11.length co57), (.slice Ao55 x9_s11.length co55), ⟨rfl, rfl⟩, (by first | rfl | (show _ = _; simp [nthV]; done) | (simp [nthV, *]; done)), (by first | rfl | (show _ = _; simp [nthV]; done) | (simp [nthV, *]; done)), (by first | rfl | (show _ = _; simp [nthV]; done) | (simp [nthV, *]; done)), (by first | rfl | (show _ = _; simp [nthV]; done) | (simp [nthV, *]; done)), (by first | rfl | (show _ = _; simp [nthV]; done) | (simp [nthV, *]; done)), (by first | rfl | (show _ = _; simp [nthV]; done) | (simp [nthV, *]; done)), (by first | rfl | (show _ = _; simp [nthV]; done) | (simp [nthV, *]; done)), (by first | rfl | (show _ = _; simp [nthV]; done) | (simp [nthV, *]; done)), (by first | rfl | (show _ = _; simp [nthV]; done) | (simp [nthV, *]; done)), (by first | rfl | (show _ = _; simp [nthV]; done) | (simp [nthV, *]; done)), (by first | rfl | (show _ = _; simp [nthV]; done) | (simp [nthV, *]; done)), (by first | rfl | (show _ = _; simp [nthV]; done) | (simp [nthV, *]; done)), (by first | rfl | (show _ = _; simp [nthV]; done) | (simp [nthV, *]; done)), H', ⟨by (with_reducible repeat (first | apply Kd.R_alloc | apply Kd.R_drewN | apply Kd.R_drew)); exact HO_5.out⟩, ⟨by (with_reducible repeat (first | apply Kd.S_alloc | apply Kd.S_drewN | apply Kd.S_drew)); exact Kd.S_mono HO_9.out (fun _ hk => hk.1)⟩, ⟨by repeat (first | (with_reducible first | exact HB.out | apply below_alloc | apply pw_below_drewN | apply below_drew1) | exact HB.out)⟩⟩
  subst c39
  have H1 : (if (x25_s11 != (decide ((x9_s11.length : Int) < (wrap64 ((wrap64 (x7_s11 - x6_s11)) + 1))))) = true then (some false) else ((impl_AreBirths.f x5_s11).bind fun t468 => (if t468 = true then ((impl_AreBirths.f x5_s11).bind fun t469 => ((spec_AreBirths.f kj_s11 x5_s11).bind fun t470 => (if (t469 != t470) = true then (some false) else (laws_FnJubileesCome.j4 kj_s11 l1 x5_s11 x6_s11 x7_s11 x8_s11 x9_s11 true x13_s11 x17_s11 x18_s11 x23_s11 x24_s11 x25_s11)))) else (some false)))) = some true := by rw [if_pos rfl] at H; first | done | exact H
  clear H
  have H := H1
  clear H1
  by_cases c40 : (x25_s11 != (decide ((x9_s11.length : Int) < (wrap64 ((wrap64 (x7_s11 - x6_s11)) + 1))))) = true
  · rw [if_pos c40] at H
    have c40b0 : (x25_s11 != (decide ((x9_s11.length : Int) < (wrap64 ((wrap64 (x7_s11 - x6_s11)) + 1))))) = true := c40
    (try (have c40b1 : decide (x25_s11 = (decide ((x9_s11.length : Int) < (wrap64 ((wrap64 (x7_s11 - x6_s11)) + 1))))) = false := by simpa using c40))
    (try (have c40b2 : (x25_s11 == (decide ((x9_s11.length : Int) < (wrap64 ((wrap64 (x7_s11 - x6_s11)) + 1))))) = false := by simpa using c40))
    (try (have c40b3 : ¬ (x25_s11 = (decide ((x9_s11.length : Int) < (wrap64 ((wrap64 (x7_s11 - x6_s11)) + 1))))) := by simpa using c40))
    clear c40
    exact absurd H (by simp)
  rw [if_neg c40] at H
  have c40b0 : (x25_s11 != (decide ((x9_s11.length : Int) < (wrap64 ((wrap64 (x7_s11 - x6_s11)) + 1))))) = false := by simpa using c40
  (try (have c40b1 : decide (x25_s11 = (decide ((x9_s11.length : Int) < (wrap64 ((wrap64 (x7_s11 - x6_s11)) + 1))))) = true := by simpa using c40))
  (try (have c40b2 : (x25_s11 == (decide ((x9_s11.length : Int) < (wrap64 ((wrap64 (x7_s11 - x6_s11)) + 1))))) = true := by simpa using c40))
  clear c40
  replace H := Option.bind_eq_some_iff.mp H
  obtain ⟨t468, A410, H⟩ := H
  replace H : (if t468 = true then ((impl_AreBirths.f x5_s11).bind fun t469 => ((spec_AreBirths.f kj_s11 x5_s11).bind fun t470 => (if (t469 != t470) = true then (some false) else (laws_FnJubileesCome.j4 kj_s11 l1 x5_s11 x6_s11 x7_s11 x8_s11 x9_s11 true x13_s11 x17_s11 x18_s11 x23_s11 x24_s11 x25_s11)))) else (some false)) = some true := H
  have A41 := Aside0.mk A410
  clear A410
  by_cases c42 : t468 = true
  rotate_left
  · replace c42 := Bool.eq_false_iff.mpr c42
    subst c42
    have H1 : (some false) = some true := by rw [if_neg (show ¬ (false = true) by decide)] at H; first | done | exact H
    clear H
    have H := H1
    clear H1
    exact absurd H (by simp)
  subst c42
  have H1 : ((impl_AreBirths.f x5_s11).bind fun t469 => ((spec_AreBirths.f kj_s11 x5_s11).bind fun t470 => (if (t469 != t470) = true then (some false) else (laws_FnJubileesCome.j4 kj_s11 l1 x5_s11 x6_s11 x7_s11 x8_s11 x9_s11 true x13_s11 x17_s11 x18_s11 x23_s11 x24_s11 x25_s11)))) = some true := by rw [if_pos rfl] at H; first | done | exact H
  clear H
  have H := H1
  clear H1
  replace H := Option.bind_eq_some_iff.mp H
  obtain ⟨t469, A430, H⟩ := H
  replace H : ((spec_AreBirths.f kj_s11 x5_s11).bind fun t470 => (if (t469 != t470) = true then (some false) else (laws_FnJubileesCome.j4 kj_s11 l1 x5_s11 x6_s11 x7_s11 x8_s11 x9_s11 true x13_s11 x17_s11 x18_s11 x23_s11 x24_s11 x25_s11))) = some true := H
  have A43 := Aside0.mk A430
  clear A430
  obtain rfl : t469 = true := Option.some.inj (A43.out.symm.trans A41.out)
  replace H := Option.bind_eq_some_iff.mp H
  obtain ⟨t470, A440, H⟩ := H
  replace H : (if (true != t470) = true then (some false) else (laws_FnJubileesCome.j4 kj_s11 l1 x5_s11 x6_s11 x7_s11 x8_s11 x9_s11 true x13_s11 x17_s11 x18_s11 x23_s11 x24_s11 x25_s11)) = some true := H
  have A44 := Aside0.mk A440
  clear A440
  by_cases c45 : (true != t470) = true
  · rw [if_pos c45] at H
    have c45b0 : (true != t470) = true := c45
    (try (have c45b1 : decide (true = t470) = false := by simpa using c45))
    (try (have c45b2 : (true == t470) = false := by simpa using c45))
    (try (have c45b3 : ¬ (true = t470) := by simpa using c45))
    clear c45
    exact absurd H (by simp)
  rw [if_neg c45] at H
  have c45b0 : (true != t470) = false := by simpa using c45
  (try (have c45b1 : decide (true = t470) = true := by simpa using c45))
  (try (have c45b2 : (true == t470) = true := by simpa using c45))
  clear c45
  have H' := Aside0.mk H
  clear H
  obtain ⟨Ao46, co46, eo46⟩ := Kd.S_slice HO_9.out
  subst eo46
  obtain ⟨Ao47, co47, eo47⟩ := Kd.S_slice HO_11.out
  subst eo47
  go_wp2_with (first | (go_at_call 14; (with_reducible refine (laws_qRows.calls kj_s11 _ _ x9_s11 _ _ x11_s11 true _ ?side1 ?side2 ?side3 ?side4 A27.out).mono ?_); (case side1 => repeat (first | exact (Kd.S_reads' HO_9.out).2.2 | (with_reducible refine Kd.C_alloc ?_ _) | (with_reducible refine Kd.C_drewN ?_ _) | (with_reducible refine Kd.C_drew ?_))); (case side2 => exact (Kd.S_reads' HO_9.out).2.1); (case side3 => repeat (first | exact (Kd.S_reads' HO_11.out).2.2 | (with_reducible refine Kd.C_alloc ?_ _) | (with_reducible refine Kd.C_drewN ?_ _) | (with_reducible refine Kd.C_drew ?_))); (case side4 => exact (Kd.S_reads' HO_11.out).2.1); rintro e w' ⟨rfl, ⟨nd, rfl⟩⟩; obtain ⟨Ao48, co48, eo48⟩ := Kd.R_slice HO_5.out; subst eo48) | (go_at_call 15; (with_reducible refine (impl_AreBirths.calls _ _ x5_s11 true _ ?side1 ?side2 A41.out).mono ?_); (case side1 => repeat (first | exact (Kd.R_reads' HO_5.out).2.2 | (with_reducible refine Kd.C_alloc ?_ _) | (with_reducible refine Kd.C_drewN ?_ _) | (with_reducible refine Kd.C_drew ?_))); (case side2 => exact (Kd.R_reads' HO_5.out).2.1); rintro e w49 ⟨rfl, hb⟩; have n0_ := Aside0.mk (Kd.R_below (by (with_reducible repeat (first | apply Kd.R_alloc | apply Kd.R_drewN | apply Kd.R_drew)); exact HO_5.out) hb); have n1_ := Aside0.mk (Kd.S_below (by (with_reducible repeat (first | apply Kd.S_alloc | apply Kd.S_drewN | apply Kd.S_drew)); exact HO_9.out) hb); have n2_ := Aside0.mk (Kd.S_below (by (with_reducible repeat (first | apply Kd.S_alloc | apply Kd.S_drewN | apply Kd.S_drew)); exact HO_11.out) hb); have n3_ := Aside0.mk (below_step (by repeat (first | (with_reducible first | exact HB.out | apply below_alloc | apply pw_below_drewN | apply below_drew1) | exact HB.out)) hb); clear HO_5; clear HO_9; clear HO_11; clear HB; have HO_5 := n0_; have HO_9 := n1_; have HO_11 := n2_; have HB := n3_; clear n0_ n1_ n2_ n3_; (try clear hb); (try clear hb2); (try clear hk); (try clear hi)) | (go_at_call 15; (with_reducible refine (impl_AreBirths.calls _ _ x5_s11 true _ ?side1 ?side2 A43.out).mono ?_); (case side1 => repeat (first | exact (Kd.R_reads' HO_5.out).2.2 | (with_reducible refine Kd.C_alloc ?_ _) | (with_reducible refine Kd.C_drewN ?_ _) | (with_reducible refine Kd.C_drew ?_))); (case side2 => exact (Kd.R_reads' HO_5.out).2.1); rintro e w50 ⟨rfl, hb⟩; have n0_ := Aside0.mk (Kd.R_below (by (with_reducible repeat (first | apply Kd.R_alloc | apply Kd.R_drewN | apply Kd.R_drew)); exact HO_5.out) hb); have n1_ := Aside0.mk (Kd.S_below (by (with_reducible repeat (first | apply Kd.S_alloc | apply Kd.S_drewN | apply Kd.S_drew)); exact HO_9.out) hb); have n2_ := Aside0.mk (Kd.S_below (by (with_reducible repeat (first | apply Kd.S_alloc | apply Kd.S_drewN | apply Kd.S_drew)); exact HO_11.out) hb); have n3_ := Aside0.mk (below_step (by repeat (first | (with_reducible first | exact HB.out | apply below_alloc | apply pw_below_drewN | apply below_drew1) | exact HB.out)) hb); clear HO_5; clear HO_9; clear HO_11; clear HB; have HO_5 := n0_; have HO_9 := n1_; have HO_11 := n2_; have HB := n3_; clear n0_ n1_ n2_ n3_; (try clear hb); (try clear hb2); (try clear hk); (try clear hi)) | (go_at_call 16; (with_reducible refine (spec_AreBirths.calls kj_s11 _ _ x5_s11 t470 _ ?side1 ?side2 A44.out).mono ?_); (case side1 => repeat (first | exact (Kd.R_reads' HO_5.out).2.2 | (with_reducible refine Kd.C_alloc ?_ _) | (with_reducible refine Kd.C_drewN ?_ _) | (with_reducible refine Kd.C_drew ?_))); (case side2 => exact (Kd.R_reads' HO_5.out).2.1); rintro e w' ⟨rfl, ⟨nd, rfl⟩⟩))
  refine hR _ _ ?_
  unfold laws_FnJubileesCome.pre12
  exact ⟨_, (x5_s11), (x6_s11), (x7_s11), (x8_s11), (x9_s11), (true), (x13_s11), (x17_s11), (x18_s11), (x23_s11), (x24_s11), (x25_s11), (.slice Ao48 x5_s11.length co48), (.slice Ao46 x9_s11.length co46), ⟨rfl, rfl⟩, (by first | rfl | (show _ = _; simp [nthV]; done) | (simp [nthV, *]; done)), (by first | rfl | (show _ = _; simp [nthV]; done) | (simp [nthV, *]; done)), (by first | rfl | (show _ = _; simp [nthV]; done) | (simp [nthV, *]; done)), (by first | rfl | (show _ = _; simp [nthV]; done) | (simp [nthV, *]; done)), (by first | rfl | (show _ = _; simp [nthV]; done) | (simp [nthV, *]; done)), (by first | rfl | (show _ = _; simp [nthV]; done) | (simp [nthV, *]; done)), (by first | rfl | (show _ = _; simp [nthV]; done) | (simp [nthV, *]; done)), (by first | rfl | (show _ = _; simp [nthV]; done) | (simp [nthV, *]; done)), (by first | rfl | (show _ = _; simp [nthV]; done) | (simp [nthV, *]; done)), (by first | rfl | (show _ = _; simp [nthV]; done) | (simp [nthV, *]; done)), (by first | rfl | (show _ = _; simp [nthV]; done) | (simp [nthV, *]; done)), (by first | rfl | (show _ = _; simp [nthV]; done) | (simp [nthV, *]; done)), (by first | rfl | (show _ = _; simp [nthV]; done) | (simp [nthV, *]; done)), H', ⟨by (with_reducible repeat (first | apply Kd.R_alloc | apply Kd.R_drewN | apply Kd.R_drew)); exact HO_5.out⟩, ⟨by (with_reducible repeat (first | apply Kd.S_alloc | apply Kd.S_drewN | apply Kd.S_drew)); exact Kd.S_mono HO_9.out (fun _ hk => hk.1)⟩, ⟨by repeat (first | (with_reducible first | exact HB.out | apply below_alloc | apply pw_below_drewN | apply below_drew1) | exact HB.out)⟩⟩

end Go.Proofs.Ytiacjmaofdimgaa.PFnJubileesCome
