-- written by the print program turned for this claim
import Derived.Test.YtiacjmaofdimgaaPFnJubileesComex0
import Derived.Test.YtiacjmaofdimgaaPFnJubileesComex1
import Derived.Test.YtiacjmaofdimgaaPFnJubileesComex2
import Derived.Test.YtiacjmaofdimgaaPFnJubileesComex3
import Derived.Test.YtiacjmaofdimgaaPFnJubileesComex4
import Derived.Test.YtiacjmaofdimgaaPFnJubileesComex5
import Derived.Test.YtiacjmaofdimgaaPFnJubileesComex6
import Derived.Test.YtiacjmaofdimgaaPFnJubileesComex7
import Derived.Test.YtiacjmaofdimgaaPFnJubileesComex8
namespace Go.Proofs.Ytiacjmaofdimgaa.PFnJubileesCome
open Go.RowKit Go.Proofs.YtiacjmaofdimgaaW.PrintWords Go.Proofs.YtiacjmaofdimgaaW.PrintLast Go.Proofs.YtiacjmaofdimgaaW.PrintMore
attribute [local go_sem] max2_int min2_int max_two min_two max_three min_three max_four min_four   -- for this text's walks alone
set_option linter.unusedVariables false
set_option linter.unusedSimpArgs false

/-! ### laws_qHas: function 32 -/
def laws_qHas.l0 : Nat → Int → List Int → Int → Int → Option (Bool)
  | 0, _, _, _, _ => none
  | k + 1, x1, x7, x8, x9 => if x9 < x8 then (if 0 ≤ x9 then (if x9 < (x7.length : Int) then (if (rd x7 x9) = x1 then (some true) else (laws_qHas.l0 k x1 x7 x8 (wrap64 (x9 + 1)))) else (none)) else (none)) else (some false)
def laws_qHas.f (k : Nat) (l0 : List Int) (a1 : Int) : Option (Bool) := laws_qHas.l0 k a1 l0 (l0.length : Int) 0
theorem laws_qHas.mono_l : ∀ k, (∀ y0 y1 y2 y3, LeO (laws_qHas.l0 k y0 y1 y2 y3) (laws_qHas.l0 (k + 1) y0 y1 y2 y3))
  | 0 => fun _ _ _ _ r h => by simp [laws_qHas.l0] at h
  | k + 1 => by
    have ih0 := laws_qHas.mono_l k
    · intro y0 y1 y2 y3
      unfold laws_qHas.l0
      repeat' first
      | (with_reducible exact ih0 _ _ _ _)
      | (with_reducible exact LeO.refl _)
      | (with_reducible exact LeO.none _)
      | (with_reducible refine LeO.ite ?_ ?_)
      | (with_reducible refine LeO.bind ?_ (fun _ => ?_))
      | exact ih0 _ _ _ _
      | exact LeO.none _
      | refine LeO.ite ?_ ?_
      | refine LeO.bind ?_ (fun _ => ?_)
theorem laws_qHas.mono : ∀ a0 a1 k, LeO (laws_qHas.f k a0 a1) (laws_qHas.f (k + 1) a0 a1) := by
  intro a0 a1 k
  have ih0 := laws_qHas.mono_l k
  unfold laws_qHas.f
  repeat' first
      | (with_reducible exact ih0 _ _ _ _)
      | (with_reducible exact LeO.refl _)
      | (with_reducible exact LeO.none _)
      | (with_reducible refine LeO.ite ?_ ?_)
      | (with_reducible refine LeO.bind ?_ (fun _ => ?_))
      | exact ih0 _ _ _ _
      | exact LeO.none _
      | refine LeO.ite ?_ ?_
      | refine LeO.bind ?_ (fun _ => ?_)
set_option maxHeartbeats 8000000 in
set_option maxRecDepth 100000 in
theorem laws_qHas.calls (k : Nat) (A0 : Option Addr) (c0 : Nat) (l0 : List Int) (a1 : Int) (r : Bool) (w : World) (hr0 : Kd.C (Kd.int .i64) w A0 l0.length l0) (hc0 : l0.length ≤ c0) (h : laws_qHas.f k l0 a1 = some r) :
    Calls Try.prog 32 #[.slice A0 l0.length c0, .int .i64 a1] w fun e w' => e = .returned (.bool r) ∧ Drawn0 w w' := by
  have HR0 := Aside0.mk hr0
  have HC0 := Aside0.mk hc0
  clear hr0 hc0
  have H : (laws_qHas.l0 k a1 l0 (l0.length : Int) 0) = some r := h
  clear h
  have H' := Aside0.mk H
  clear H
  go_enter Try.func32, Try.ntmps32
  go_wp2
  go_loopg [9] k (fun kq v9 w' => ∃ (x9_1 : Int), v9 = .int .i64 x9_1 ∧ Aside0 (laws_qHas.l0 kq a1 l0 (l0.length : Int) x9_1 = some r) ∧ Aside0 (kq ≤ k) ∧ Drawn0 w w')
  case atStart => exact ⟨(0), (by first | rfl | (simp; done) | (simp [*]; done)), H', ⟨Nat.le_refl _⟩, by repeat (first | exact Drawn0.refl _ | apply Drawn0.step)⟩
  case round =>
    clear H'
    try clear p2
    obtain ⟨x9_1, rfl, HA, HK1, ⟨m1, rfl⟩⟩ := hrel
    cases gk with
    | zero => exact absurd HA.out (by simp [laws_qHas.l0])
    | succ k1 =>
      have H := HA.out
      clear HA
      simp only [laws_qHas.l0] at H
      by_cases c3 : x9_1 < (l0.length : Int)
      · rw [if_pos c3] at H
        have c3b0 : decide (x9_1 < (l0.length : Int)) = true := decide_eq_true c3
        clear c3
        by_cases c4 : 0 ≤ x9_1
        · rw [if_pos c4] at H
          have c4b0 : decide (0 ≤ x9_1) = true := decide_eq_true c4
          clear c4
          by_cases c5 : x9_1 < (l0.length : Int)
          · rw [if_pos c5] at H
            have c5b0 : decide (x9_1 < (l0.length : Int)) = true := decide_eq_true c5
            clear c5
            by_cases c6 : (rd l0 x9_1) = a1
            · rw [if_pos c6] at H
              have c6b0 : ((rd l0 x9_1) == a1) = true := beq_iff_eq.mpr c6
              have c6b1 : ((rd l0 x9_1) != a1) = false := bne_eq_false_iff_eq.mpr c6
              clear c6
              obtain rfl := Option.some.inj H
              have p435 : 0 ≤ (x9_1 : Int) := of_decide_eq_true (by first | (with_reducible assumption) | assumption)
              have q435 : x9_1 < (l0.length : Int) := of_decide_eq_true (by first | (with_reducible assumption) | assumption)
              obtain ⟨ad435, e435, hx435_0⟩ := Kd.at_int HR0.out x9_1 p435 q435
              cases e435
              replace p435 := eq_true p435
              replace q435 := eq_true q435
              go_wp2
              go_ret
              exact ⟨by first | rfl | (simp; done) | (simp [*]; done), by repeat (first | exact Drawn0.refl _ | apply Drawn0.step)⟩
            · rw [if_neg c6] at H
              have c6b0 : ((rd l0 x9_1) == a1) = false := beq_eq_false_iff_ne.mpr c6
              have c6b1 : ((rd l0 x9_1) != a1) = true := bne_iff_ne.mpr c6
              have H' := Aside0.mk H
              clear H
              have p435 : 0 ≤ (x9_1 : Int) := of_decide_eq_true (by first | (with_reducible assumption) | assumption)
              have q435 : x9_1 < (l0.length : Int) := of_decide_eq_true (by first | (with_reducible assumption) | assumption)
              obtain ⟨ad435, e435, hx435_0⟩ := Kd.at_int HR0.out x9_1 p435 q435
              cases e435
              replace p435 := eq_true p435
              replace q435 := eq_true q435
              go_wp2
              go_roundg k1
              case measure => have := HK1.out; omega
              case rel => exact ⟨(wrap64 (x9_1 + 1)), (by first | rfl | (simp; done) | (simp [*]; done)), H', ⟨by have := HK1.out; omega⟩, by repeat (first | exact Drawn0.refl _ | apply Drawn0.step)⟩
          · rw [if_neg c5] at H
            exact absurd H (by simp)
        · rw [if_neg c4] at H
          exact absurd H (by simp)
      · rw [if_neg c3] at H
        have c3b0 : decide (x9_1 < (l0.length : Int)) = false := decide_eq_false c3
        clear c3
        obtain rfl := Option.some.inj H
        go_wp2
        go_ret
        exact ⟨by first | rfl | (simp; done) | (simp [*]; done), by repeat (first | exact Drawn0.refl _ | apply Drawn0.step)⟩

/-! ### laws_FnJubileesCome: function 3 -/
mutual
def laws_FnJubileesCome.j0 : Nat → List Int → List Int → Option (Bool)
  | 0, _, _ => none
  | k + 1, x0, x1 => (spec_DrawCalendarOf.f k x0).bind fun bt437 => ((impl_CalendarOf.f k bt437.1 bt437.2.1 bt437.2.2.1 bt437.2.2.2).bind fun bt443 => ((spec_CalendarOf.f k bt437.1 bt437.2.1 bt437.2.2.1 bt437.2.2.2).bind fun bt447 => (laws_FnJubileesCome.j1 k x1 bt437.1 bt437.2.1 bt437.2.2.1 bt437.2.2.2 bt443.1 bt443.2 bt447.1 bt447.2)))
def laws_FnJubileesCome.j1 : Nat → List Int → List Int → Int → Int → Int → List (List Int) → Bool → List (List Int) → Bool → Option (Bool)
  | 0, _, _, _, _, _, _, _, _, _ => none
  | k + 1, x1, x5, x6, x7, x8, x9, x10, x11, x12 => (impl_CountJubilees.f k x5 x6 x7 x8).bind fun bt451 => ((spec_CountJubilees.f k x5 x6 x7 x8).bind fun bt453 => ((impl_MostJubilees.f k x5 x6 x7 x8).bind fun bt455 => (laws_FnJubileesCome.j2 k x1 x5 x6 x7 x8 x9 x10 x11 x12 bt451.1 bt451.2 bt453.1 bt453.2 bt455.1 bt455.2.1 bt455.2.2)))
def laws_FnJubileesCome.j2 : Nat → List Int → List Int → Int → Int → Int → List (List Int) → Bool → List (List Int) → Bool → Int → Bool → Int → Bool → Int → Int → Bool → Option (Bool)
  | 0, _, _, _, _, _, _, _, _, _, _, _, _, _, _, _, _ => none
  | k + 1, x1, x5, x6, x7, x8, x9, x10, x11, x12, x13, x14, x15, x16, x17, x18, x19 => (spec_MostJubilees.f k x5 x6 x7 x8).bind fun bt458 => ((impl_LongestQuiet.f k x5 x6 x7 x8).bind fun bt461 => ((spec_LongestQuiet.f k x5 x6 x7 x8).bind fun bt464 => (laws_FnJubileesCome.j3 k x1 x5 x6 x7 x8 x9 x10 x11 x12 x13 x14 x15 x16 x17 x18 x19 bt458.1 bt458.2.1 bt458.2.2 bt461.1 bt461.2.1 bt461.2.2 bt464.1 bt464.2.1 bt464.2.2)))
def laws_FnJubileesCome.j3 : Nat → List Int → List Int → Int → Int → Int → List (List Int) → Bool → List (List Int) → Bool → Int → Bool → Int → Bool → Int → Int → Bool → Int → Int → Bool → Int → Int → Bool → Int → Int → Bool → Option (Bool)
  | 0, _, _, _, _, _, _, _, _, _, _, _, _, _, _, _, _, _, _, _, _, _, _, _, _, _ => none
  | k + 1, x1, x5, x6, x7, x8, x9, x10, x11, x12, x13, x14, x15, x16, x17, x18, x19, x20, x21, x22, x23, x24, x25, x26, x27, x28 => if (x10 != x12) = true then (some false) else ((laws_qRows.f k x9 x11).bind fun t467 => (if t467 = true then (if (x14 != x16) = true then (some false) else (if x13 = x15 then (if (x19 != x22) = true then (some false) else (if x17 = x20 then (if x18 = x21 then (if (x25 != x28) = true then (some false) else (if x23 = x26 then (if x24 = x27 then (if (x14 != x10) = true then (some false) else (if (x19 != x10) = true then (some false) else (if x10 = true then (if (x25 != (decide ((x9.length : Int) < (wrap64 ((wrap64 (x7 - x6)) + 1))))) = true then (some false) else ((impl_AreBirths.f x5).bind fun t468 => (if t468 = true then ((impl_AreBirths.f x5).bind fun t469 => ((spec_AreBirths.f k x5).bind fun t470 => (if (t469 != t470) = true then (some false) else (laws_FnJubileesCome.j4 k x1 x5 x6 x7 x8 x9 x10 x13 x17 x18 x23 x24 x25)))) else (some false)))) else (if (x25 != false) = true then (some false) else ((impl_AreBirths.f x5).bind fun t471 => ((spec_AreBirths.f k x5).bind fun t472 => (if (t471 != t472) = true then (some false) else (laws_FnJubileesCome.j4 k x1 x5 x6 x7 x8 x9 x10 x13 x17 x18 x23 x24 x25)))))))) else (some false)) else (some false))) else (some false)) else (some false))) else (some false))) else (some false)))
def laws_FnJubileesCome.j4 : Nat → List Int → List Int → Int → Int → Int → List (List Int) → Bool → Int → Int → Int → Int → Int → Bool → Option (Bool)
  | 0, _, _, _, _, _, _, _, _, _, _, _, _, _ => none
  | k + 1, x1, x5, x6, x7, x8, x9, x10, x13, x17, x18, x23, x24, x25 => if x10 = true then (laws_FnJubileesCome.l0 k x1 x5 x6 x7 x8 x9 x13 x17 x18 x23 x24 x25 0 0 0 x6) else (laws_FnJubileesCome.j10 k x1)
def laws_FnJubileesCome.j10 : Nat → List Int → Option (Bool)
  | 0, _ => none
  | k + 1, x1 => (spec_DrawNextJubilee.f k x1).bind fun bt491 => ((impl_NextJubilee.f k bt491.1 bt491.2.1 bt491.2.2).bind fun bt496 => ((spec_NextJubilee.f k bt491.1 bt491.2.1 bt491.2.2).bind fun bt498 => (laws_FnJubileesCome.j11 k x1 bt491.1 bt491.2.1 bt491.2.2 bt496.1 bt496.2 bt498.1 bt498.2)))
def laws_FnJubileesCome.j11 : Nat → List Int → List Int → Int → Int → Int → Bool → Int → Bool → Option (Bool)
  | 0, _, _, _, _, _, _, _, _ => none
  | k + 1, x1, x38, x39, x40, x41, x42, x43, x44 => (impl_JubileesIn.f k x38 x39 x40).bind fun bt500 => ((spec_JubileesIn.f k x38 x39 x40).bind fun bt504 => ((impl_OldestRound.f k x38 x39 x40).bind fun bt508 => (laws_FnJubileesCome.j12 k x1 x38 x39 x40 x41 x42 x43 x44 bt500.1 bt500.2 bt504.1 bt504.2 bt508.1 bt508.2.1 bt508.2.2)))
def laws_FnJubileesCome.j12 : Nat → List Int → List Int → Int → Int → Int → Bool → Int → Bool → List Int → Bool → List Int → Bool → Int → Int → Bool → Option (Bool)
  | 0, _, _, _, _, _, _, _, _, _, _, _, _, _, _, _ => none
  | k + 1, x1, x38, x39, x40, x41, x42, x43, x44, x45, x46, x47, x48, x49, x50, x51 => (spec_OldestRound.f k x38 x39 x40).bind fun bt511 => ((spec_DrawTogetherJubilees.f k x1).bind fun bt514 => ((impl_TogetherJubilees.f k bt514.1 bt514.2).bind fun bt518 => (laws_FnJubileesCome.j13 k x1 x38 x39 x40 x41 x42 x43 x44 x45 x46 x47 x48 x49 x50 x51 bt511.1 bt511.2.1 bt511.2.2 bt514.1 bt514.2 bt518.1 bt518.2)))
def laws_FnJubileesCome.j13 : Nat → List Int → List Int → Int → Int → Int → Bool → Int → Bool → List Int → Bool → List Int → Bool → Int → Int → Bool → Int → Int → Bool → List Int → Int → List Int → Bool → Option (Bool)
  | 0, _, _, _, _, _, _, _, _, _, _, _, _, _, _, _, _, _, _, _, _, _, _ => none
  | k + 1, x1, x38, x39, x40, x41, x42, x43, x44, x45, x46, x47, x48, x49, x50, x51, x52, x53, x54, x55, x56, x57, x58 => (spec_TogetherJubilees.f k x55 x56).bind fun bt522 => ((spec_DrawAnniversaries.f x1).bind fun bt526 => ((impl_Anniversaries.f k bt526.1 bt526.2.1 bt526.2.2.1 bt526.2.2.2).bind fun bt530 => (laws_FnJubileesCome.j14 k x38 x39 x40 x41 x42 x43 x44 x45 x46 x47 x48 x49 x50 x51 x52 x53 x54 x55 x56 x57 x58 bt522.1 bt522.2 bt526.1 bt526.2.1 bt526.2.2.1 bt526.2.2.2 bt530.1 bt530.2)))
def laws_FnJubileesCome.j14 : Nat → List Int → Int → Int → Int → Bool → Int → Bool → List Int → Bool → List Int → Bool → Int → Int → Bool → Int → Int → Bool → List Int → Int → List Int → Bool → List Int → Bool → Int → Int → Int → Int → List Int → Bool → Option (Bool)
  | 0, _, _, _, _, _, _, _, _, _, _, _, _, _, _, _, _, _, _, _, _, _, _, _, _, _, _, _, _, _ => none
  | k + 1, x38, x39, x40, x41, x42, x43, x44, x45, x46, x47, x48, x49, x50, x51, x52, x53, x54, x55, x56, x57, x58, x59, x60, x61, x62, x63, x64, x65, x66 => (spec_Anniversaries.f k x61 x62 x63 x64).bind fun bt534 => (laws_FnJubileesCome.j15 k x38 x39 x40 x41 x42 x43 x44 x45 x46 x47 x48 x49 x50 x51 x52 x53 x54 x55 x56 x57 x58 x59 x60 x61 x62 x63 x64 x65 x66 bt534.1 bt534.2)
def laws_FnJubileesCome.j15 : Nat → List Int → Int → Int → Int → Bool → Int → Bool → List Int → Bool → List Int → Bool → Int → Int → Bool → Int → Int → Bool → List Int → Int → List Int → Bool → List Int → Bool → Int → Int → Int → Int → List Int → Bool → List Int → Bool → Option (Bool)
  | 0, _, _, _, _, _, _, _, _, _, _, _, _, _, _, _, _, _, _, _, _, _, _, _, _, _, _, _, _, _, _, _ => none
  | k + 1, x38, x39, x40, x41, x42, x43, x44, x45, x46, x47, x48, x49, x50, x51, x52, x53, x54, x55, x56, x57, x58, x59, x60, x61, x62, x63, x64, x65, x66, x67, x68 => if (x42 != x44) = true then (some false) else (if x41 = x43 then (if (x46 != x48) = true then (some false) else ((laws_qSame.f k x45 x47).bind fun t538 => (if t538 = true then (if (x51 != x54) = true then (some false) else (if x49 = x52 then (if x50 = x53 then (if (x58 != x60) = true then (some false) else ((laws_qSame.f k x57 x59).bind fun t539 => (if t539 = true then (if (x66 != x68) = true then (some false) else ((laws_qSame.f k x65 x67).bind fun t540 => (if t540 = true then (if x46 = true then (if (x51 != (decide ((x45.length : Int) > 0))) = true then (some false) else (if x42 = true then (laws_FnJubileesCome.j16 k x38 x39 x40 x41 x42 x45 x46 x49 x50 x51 x55 x56 x57 x58 x61 x62 x63 x64 x65 x66) else (laws_FnJubileesCome.j16 k x38 x39 x40 x41 x42 x45 x46 x49 x50 x51 x55 x56 x57 x58 x61 x62 x63 x64 x65 x66))) else (if (x51 != false) = true then (some false) else (if x42 = true then (some false) else (laws_FnJubileesCome.j16 k x38 x39 x40 x41 x42 x45 x46 x49 x50 x51 x55 x56 x57 x58 x61 x62 x63 x64 x65 x66)))) else (some false)))) else (some false)))) else (some false)) else (some false))) else (some false)))) else (some false))
def laws_FnJubileesCome.j16 : Nat → List Int → Int → Int → Int → Bool → List Int → Bool → Int → Int → Bool → List Int → Int → List Int → Bool → Int → Int → Int → Int → List Int → Bool → Option (Bool)
  | 0, _, _, _, _, _, _, _, _, _, _, _, _, _, _, _, _, _, _, _, _ => none
  | k + 1, x38, x39, x40, x41, x42, x45, x46, x49, x50, x51, x55, x56, x57, x58, x61, x62, x63, x64, x65, x66 => if x46 = true then (laws_FnJubileesCome.l2 k x38 x39 x40 x41 x42 x45 x49 x50 x51 x55 x56 x57 x58 x61 x62 x63 x64 x65 x66 x38 (x38.length : Int) 0) else (laws_FnJubileesCome.j18 k x38 x39 x40 x41 x42 x45 x49 x50 x51 x55 x56 x57 x58 x61 x62 x63 x64 x65 x66)
def laws_FnJubileesCome.j18 : Nat → List Int → Int → Int → Int → Bool → List Int → Int → Int → Bool → List Int → Int → List Int → Bool → Int → Int → Int → Int → List Int → Bool → Option (Bool)
  | 0, _, _, _, _, _, _, _, _, _, _, _, _, _, _, _, _, _, _, _ => none
  | k + 1, x38, x39, x40, x41, x42, x45, x49, x50, x51, x55, x56, x57, x58, x61, x62, x63, x64, x65, x66 => if x42 = true then (if x41 ≤ x39 then (some false) else (laws_FnJubileesCome.l3 k x38 x39 x40 x41 x45 x49 x50 x51 x55 x56 x57 x58 x61 x62 x63 x64 x65 x66 (wrap64 (x39 + 1)))) else (laws_FnJubileesCome.j21 k x38 x39 x45 x49 x50 x51 x55 x56 x57 x58 x61 x62 x63 x64 x65 x66)
def laws_FnJubileesCome.j21 : Nat → List Int → Int → List Int → Int → Int → Bool → List Int → Int → List Int → Bool → Int → Int → Int → Int → List Int → Bool → Option (Bool)
  | 0, _, _, _, _, _, _, _, _, _, _, _, _, _, _, _, _ => none
  | k + 1, x38, x39, x45, x49, x50, x51, x55, x56, x57, x58, x61, x62, x63, x64, x65, x66 => if x51 = true then ((laws_qHas.f k x45 x49).bind fun t547 => (if t547 = true then (if 0 ≤ x49 then (if x49 < (x38.length : Int) then (laws_FnJubileesCome.j22 k x38 x39 x45 x49 x50 x55 x56 x57 x58 x61 x62 x63 x64 x65 x66 ((wrap64 (x39 - (rd x38 x49))) != x50)) else (none)) else (none)) else (laws_FnJubileesCome.j22 k x38 x39 x45 x49 x50 x55 x56 x57 x58 x61 x62 x63 x64 x65 x66 true))) else (laws_FnJubileesCome.j24 k x55 x56 x57 x58 x61 x62 x63 x64 x65 x66)
def laws_FnJubileesCome.j24 : Nat → List Int → Int → List Int → Bool → Int → Int → Int → Int → List Int → Bool → Option (Bool)
  | 0, _, _, _, _, _, _, _, _, _, _ => none
  | k + 1, x55, x56, x57, x58, x61, x62, x63, x64, x65, x66 => if x58 = true then ((laws_qRises.f k x57).bind fun t551 => (if t551 = true then (laws_FnJubileesCome.l5 k x55 x56 x61 x62 x63 x64 x65 x66 x57 (x57.length : Int) 0) else (some false))) else (laws_FnJubileesCome.j26 k x61 x62 x63 x64 x65 x66)
def laws_FnJubileesCome.j26 : Nat → Int → Int → Int → Int → List Int → Bool → Option (Bool)
  | 0, _, _, _, _, _, _ => none
  | k + 1, x61, x62, x63, x64, x65, x66 => if x66 = true then (laws_FnJubileesCome.l6 k x61 x63 x64 x65 x62) else (laws_FnJubileesCome.j28 k)
def laws_FnJubileesCome.j28 : Nat → Option (Bool)
  | 0 => none
  | k + 1 => some true
def laws_FnJubileesCome.l6 : Nat → Int → Int → Int → List Int → Int → Option (Bool)
  | 0, _, _, _, _, _ => none
  | k + 1, x61, x63, x64, x65, x82 => if x82 ≤ x63 then ((laws_qHas.f k x65 x82).bind fun t557 => (if x82 > x61 then (if x64 = 0 then (none) else (if (t557 != ((Int.tmod (wrap64 (x82 - x61)) x64) == 0)) = true then (some false) else (laws_FnJubileesCome.l6 k x61 x63 x64 x65 (wrap64 (x82 + 1))))) else (if (t557 != false) = true then (some false) else (laws_FnJubileesCome.l6 k x61 x63 x64 x65 (wrap64 (x82 + 1)))))) else (laws_FnJubileesCome.j28 k)
def laws_FnJubileesCome.l5 : Nat → List Int → Int → Int → Int → Int → Int → List Int → Bool → List Int → Int → Int → Option (Bool)
  | 0, _, _, _, _, _, _, _, _, _, _, _ => none
  | k + 1, x55, x56, x61, x62, x63, x64, x65, x66, x677, x678, x679 => if x679 < x678 then (if 0 ≤ x679 then (if x679 < (x677.length : Int) then ((impl_JubileesIn.f k x55 (rd x677 x679) x56).bind fun bt553 => (if bt553.2 = true then (if (bt553.1.length : Int) = (x55.length : Int) then (laws_FnJubileesCome.l5 k x55 x56 x61 x62 x63 x64 x65 x66 x677 x678 (wrap64 (x679 + 1))) else (some false)) else (some false))) else (none)) else (none)) else (laws_FnJubileesCome.j26 k x61 x62 x63 x64 x65 x66)
def laws_FnJubileesCome.j22 : Nat → List Int → Int → List Int → Int → Int → List Int → Int → List Int → Bool → Int → Int → Int → Int → List Int → Bool → Bool → Option (Bool)
  | 0, _, _, _, _, _, _, _, _, _, _, _, _, _, _, _, _ => none
  | k + 1, x38, x39, x45, x49, x50, x55, x56, x57, x58, x61, x62, x63, x64, x65, x66, x646 => if x646 = true then (some false) else (laws_FnJubileesCome.l4 k x38 x39 x49 x50 x55 x56 x57 x58 x61 x62 x63 x64 x65 x66 x45 (x45.length : Int) 0)
def laws_FnJubileesCome.l4 : Nat → List Int → Int → Int → Int → List Int → Int → List Int → Bool → Int → Int → Int → Int → List Int → Bool → List Int → Int → Int → Option (Bool)
  | 0, _, _, _, _, _, _, _, _, _, _, _, _, _, _, _, _, _ => none
  | k + 1, x38, x39, x49, x50, x55, x56, x57, x58, x61, x62, x63, x64, x65, x66, x647, x648, x649 => if x649 < x648 then (if 0 ≤ x649 then (if x649 < (x647.length : Int) then (if 0 ≤ (rd x647 x649) then (if (rd x647 x649) < (x38.length : Int) then (if (wrap64 (x39 - (rd x38 (rd x647 x649)))) > x50 then (some false) else (if (wrap64 (x39 - (rd x38 (rd x647 x649)))) = x50 then (if (rd x647 x649) < x49 then (some false) else (laws_FnJubileesCome.l4 k x38 x39 x49 x50 x55 x56 x57 x58 x61 x62 x63 x64 x65 x66 x647 x648 (wrap64 (x649 + 1)))) else (laws_FnJubileesCome.l4 k x38 x39 x49 x50 x55 x56 x57 x58 x61 x62 x63 x64 x65 x66 x647 x648 (wrap64 (x649 + 1))))) else (none)) else (none)) else (none)) else (none)) else (laws_FnJubileesCome.j24 k x55 x56 x57 x58 x61 x62 x63 x64 x65 x66)
def laws_FnJubileesCome.l3 : Nat → List Int → Int → Int → Int → List Int → Int → Int → Bool → List Int → Int → List Int → Bool → Int → Int → Int → Int → List Int → Bool → Int → Option (Bool)
  | 0, _, _, _, _, _, _, _, _, _, _, _, _, _, _, _, _, _, _, _ => none
  | k + 1, x38, x39, x40, x41, x45, x49, x50, x51, x55, x56, x57, x58, x61, x62, x63, x64, x65, x66, x72 => if x72 ≤ x41 then (laws_FnJubileesCome.j20 k x38 x39 x40 x41 x45 x49 x50 x51 x55 x56 x57 x58 x61 x62 x63 x64 x65 x66 x72 (decide (x72 < (wrap64 (x39 + 60))))) else (laws_FnJubileesCome.j20 k x38 x39 x40 x41 x45 x49 x50 x51 x55 x56 x57 x58 x61 x62 x63 x64 x65 x66 x72 false)
def laws_FnJubileesCome.j20 : Nat → List Int → Int → Int → Int → List Int → Int → Int → Bool → List Int → Int → List Int → Bool → Int → Int → Int → Int → List Int → Bool → Int → Bool → Option (Bool)
  | 0, _, _, _, _, _, _, _, _, _, _, _, _, _, _, _, _, _, _, _, _ => none
  | k + 1, x38, x39, x40, x41, x45, x49, x50, x51, x55, x56, x57, x58, x61, x62, x63, x64, x65, x66, x72, x611 => if x611 = true then ((impl_JubileesIn.f k x38 x72 x40).bind fun bt543 => (if bt543.2 = true then (if ((decide ((bt543.1.length : Int) > 0)) != (x72 == x41)) = true then (some false) else (laws_FnJubileesCome.l3 k x38 x39 x40 x41 x45 x49 x50 x51 x55 x56 x57 x58 x61 x62 x63 x64 x65 x66 (wrap64 (x72 + 1)))) else (some false))) else (laws_FnJubileesCome.j21 k x38 x39 x45 x49 x50 x51 x55 x56 x57 x58 x61 x62 x63 x64 x65 x66)
def laws_FnJubileesCome.l2 : Nat → List Int → Int → Int → Int → Bool → List Int → Int → Int → Bool → List Int → Int → List Int → Bool → Int → Int → Int → Int → List Int → Bool → List Int → Int → Int → Option (Bool)
  | 0, _, _, _, _, _, _, _, _, _, _, _, _, _, _, _, _, _, _, _, _, _, _ => none
  | k + 1, x38, x39, x40, x41, x42, x45, x49, x50, x51, x55, x56, x57, x58, x61, x62, x63, x64, x65, x66, x570, x571, x572 => if x572 < x571 then (if 0 ≤ x572 then (if x572 < (x570.length : Int) then ((laws_qHas.f k x45 x572).bind fun t542 => (if (wrap64 (x39 - (rd x570 x572))) > 0 then (if (wrap64 (x39 - (rd x570 x572))) ≤ 120 then (if x40 = 0 then (none) else (if (t542 != ((Int.tmod (wrap64 (x39 - (rd x570 x572))) x40) == 0)) = true then (some false) else (laws_FnJubileesCome.l2 k x38 x39 x40 x41 x42 x45 x49 x50 x51 x55 x56 x57 x58 x61 x62 x63 x64 x65 x66 x570 x571 (wrap64 (x572 + 1))))) else (if (t542 != false) = true then (some false) else (laws_FnJubileesCome.l2 k x38 x39 x40 x41 x42 x45 x49 x50 x51 x55 x56 x57 x58 x61 x62 x63 x64 x65 x66 x570 x571 (wrap64 (x572 + 1))))) else (if (t542 != false) = true then (some false) else (laws_FnJubileesCome.l2 k x38 x39 x40 x41 x42 x45 x49 x50 x51 x55 x56 x57 x58 x61 x62 x63 x64 x65 x66 x570 x571 (wrap64 (x572 + 1)))))) else (none)) else (none)) else (laws_FnJubileesCome.j18 k x38 x39 x40 x41 x42 x45 x49 x50 x51 x55 x56 x57 x58 x61 x62 x63 x64 x65 x66)
def laws_FnJubileesCome.l0 : Nat → List Int → List Int → Int → Int → Int → List (List Int) → Int → Int → Int → Int → Int → Bool → Int → Int → Int → Int → Option (Bool)
  | 0, _, _, _, _, _, _, _, _, _, _, _, _, _, _, _, _ => none
  | k + 1, x1, x5, x6, x7, x8, x9, x13, x17, x18, x23, x24, x25, x29, x30, x31, x32 => if x32 ≤ x7 then ((impl_JubileesIn.f k x5 x32 x8).bind fun bt473 => (if bt473.2 = true then ((laws_qRises.f k bt473.1).bind fun t477 => (if t477 = true then (if (bt473.1.length : Int) > x18 then (laws_FnJubileesCome.j6 k x1 x5 x6 x7 x8 x9 x13 x17 x18 x23 x24 x25 x29 x30 x31 x32 bt473.1 true) else (if (bt473.1.length : Int) = x18 then (if x32 < x17 then (laws_FnJubileesCome.j6 k x1 x5 x6 x7 x8 x9 x13 x17 x18 x23 x24 x25 x29 x30 x31 x32 bt473.1 true) else (if x32 = x17 then (laws_FnJubileesCome.j6 k x1 x5 x6 x7 x8 x9 x13 x17 x18 x23 x24 x25 x29 x30 x31 x32 bt473.1 ((bt473.1.length : Int) != x18)) else (laws_FnJubileesCome.j6 k x1 x5 x6 x7 x8 x9 x13 x17 x18 x23 x24 x25 x29 x30 x31 x32 bt473.1 false))) else (if x32 = x17 then (laws_FnJubileesCome.j6 k x1 x5 x6 x7 x8 x9 x13 x17 x18 x23 x24 x25 x29 x30 x31 x32 bt473.1 ((bt473.1.length : Int) != x18)) else (laws_FnJubileesCome.j6 k x1 x5 x6 x7 x8 x9 x13 x17 x18 x23 x24 x25 x29 x30 x31 x32 bt473.1 false)))) else (laws_FnJubileesCome.j6 k x1 x5 x6 x7 x8 x9 x13 x17 x18 x23 x24 x25 x29 x30 x31 x32 bt473.1 true))) else (laws_FnJubileesCome.j6 k x1 x5 x6 x7 x8 x9 x13 x17 x18 x23 x24 x25 x29 x30 x31 x32 bt473.1 true))) else (if x29 = x13 then (laws_FnJubileesCome.j8 k x1 x5 x6 x7 x8 x23 x24 x25 (x30 != (x9.length : Int))) else (laws_FnJubileesCome.j8 k x1 x5 x6 x7 x8 x23 x24 x25 true))
def laws_FnJubileesCome.j6 : Nat → List Int → List Int → Int → Int → Int → List (List Int) → Int → Int → Int → Int → Int → Bool → Int → Int → Int → Int → List Int → Bool → Option (Bool)
  | 0, _, _, _, _, _, _, _, _, _, _, _, _, _, _, _, _, _, _ => none
  | k + 1, x1, x5, x6, x7, x8, x9, x13, x17, x18, x23, x24, x25, x29, x30, x31, x32, x33, x297 => if x297 = true then (some false) else (if (x33.length : Int) > 0 then (if x30 ≥ (x9.length : Int) then (laws_FnJubileesCome.j7 k x1 x5 x6 x7 x8 x9 x13 x17 x18 x23 x24 x25 (wrap64 (x29 + (x33.length : Int))) x30 x32 true) else (if 0 ≤ x30 then (if x30 < (x9.length : Int) then (if ((rd_L2 x9 x30).length : Int) = (wrap64 ((x33.length : Int) + 1)) then (if 0 < ((rd_L2 x9 x30).length : Int) then (if (rd (rd_L2 x9 x30) 0) = x32 then (if 1 ≤ ((rd_L2 x9 x30).length : Int) then ((laws_qSame.f k ((rd_L2 x9 x30).drop 1) x33).bind fun t486 => (laws_FnJubileesCome.j7 k x1 x5 x6 x7 x8 x9 x13 x17 x18 x23 x24 x25 (wrap64 (x29 + (x33.length : Int))) x30 x32 (!t486))) else (none)) else (laws_FnJubileesCome.j7 k x1 x5 x6 x7 x8 x9 x13 x17 x18 x23 x24 x25 (wrap64 (x29 + (x33.length : Int))) x30 x32 true)) else (none)) else (laws_FnJubileesCome.j7 k x1 x5 x6 x7 x8 x9 x13 x17 x18 x23 x24 x25 (wrap64 (x29 + (x33.length : Int))) x30 x32 true)) else (none)) else (none))) else (if (wrap64 (x31 + 1)) > x24 then (some false) else (if (wrap64 (x31 + 1)) = x24 then (if (wrap64 (x31 + 1)) > 0 then (if (wrap64 ((wrap64 (x32 - (wrap64 (x31 + 1)))) + 1)) < x23 then (some false) else (laws_FnJubileesCome.l0 k x1 x5 x6 x7 x8 x9 x13 x17 x18 x23 x24 x25 (wrap64 (x29 + (x33.length : Int))) x30 (wrap64 (x31 + 1)) (wrap64 (x32 + 1)))) else (laws_FnJubileesCome.l0 k x1 x5 x6 x7 x8 x9 x13 x17 x18 x23 x24 x25 (wrap64 (x29 + (x33.length : Int))) x30 (wrap64 (x31 + 1)) (wrap64 (x32 + 1)))) else (laws_FnJubileesCome.l0 k x1 x5 x6 x7 x8 x9 x13 x17 x18 x23 x24 x25 (wrap64 (x29 + (x33.length : Int))) x30 (wrap64 (x31 + 1)) (wrap64 (x32 + 1))))))
def laws_FnJubileesCome.j7 : Nat → List Int → List Int → Int → Int → Int → List (List Int) → Int → Int → Int → Int → Int → Bool → Int → Int → Int → Bool → Option (Bool)
  | 0, _, _, _, _, _, _, _, _, _, _, _, _, _, _, _, _ => none
  | k + 1, x1, x5, x6, x7, x8, x9, x13, x17, x18, x23, x24, x25, x29, x30, x32, x341 => if x341 = true then (some false) else (if 0 > x24 then (some false) else (if 0 = x24 then (if 0 > 0 then (if (wrap64 ((wrap64 (x32)) + 1)) < x23 then (some false) else (laws_FnJubileesCome.l0 k x1 x5 x6 x7 x8 x9 x13 x17 x18 x23 x24 x25 x29 (wrap64 (x30 + 1)) 0 (wrap64 (x32 + 1)))) else (laws_FnJubileesCome.l0 k x1 x5 x6 x7 x8 x9 x13 x17 x18 x23 x24 x25 x29 (wrap64 (x30 + 1)) 0 (wrap64 (x32 + 1)))) else (laws_FnJubileesCome.l0 k x1 x5 x6 x7 x8 x9 x13 x17 x18 x23 x24 x25 x29 (wrap64 (x30 + 1)) 0 (wrap64 (x32 + 1)))))
def laws_FnJubileesCome.j8 : Nat → List Int → List Int → Int → Int → Int → Int → Int → Bool → Bool → Option (Bool)
  | 0, _, _, _, _, _, _, _, _, _ => none
  | k + 1, x1, x5, x6, x7, x8, x23, x24, x25, x372 => if x372 = true then (some false) else (if x25 = true then (laws_FnJubileesCome.l1 k x1 x5 x6 x7 x8 x23 x24 x23) else (laws_FnJubileesCome.j10 k x1))
def laws_FnJubileesCome.l1 : Nat → List Int → List Int → Int → Int → Int → Int → Int → Int → Option (Bool)
  | 0, _, _, _, _, _, _, _, _ => none
  | k + 1, x1, x5, x6, x7, x8, x23, x24, x35 => if x35 < (wrap64 (x23 + x24)) then ((impl_JubileesIn.f k x5 x35 x8).bind fun bt487 => (if x35 < x6 then (some false) else (if x35 > x7 then (some false) else (if bt487.2 = true then (if (bt487.1.length : Int) = 0 then (laws_FnJubileesCome.l1 k x1 x5 x6 x7 x8 x23 x24 (wrap64 (x35 + 1))) else (some false)) else (some false))))) else (laws_FnJubileesCome.j10 k x1)
end
def laws_FnJubileesCome.f (k : Nat) (l0 : List Int) (l1 : List Int) : Option (Bool) := (laws_big.f l0 l1).bind fun t436 => (if t436 = true then (some true) else (laws_FnJubileesCome.j0 k l0 l1))
theorem laws_FnJubileesCome.dead0 (k : Nat) (y0 : List Int) (y1 : List Int) (y2 : Int) (y3 : Int) (y4 : Int) (y5 : List (List Int)) (y6 : Int) (y7 : Int) (y8 : Int) (y9 : Int) (y10 : Int) (y11 : Bool) (y12 : Int) (y13 : Int) (y14 : Int) (y15 : Int) (y16 : List Int) (h : laws_FnJubileesCome.j6 k y0 y1 y2 y3 y4 y5 y6 y7 y8 y9 y10 y11 y12 y13 y14 y15 y16 true = some true) : False := by
  cases k with
  | zero => simp [laws_FnJubileesCome.j6] at h
  | succ k => first | (simp only [laws_FnJubileesCome.j6] at h; rw [if_pos rfl] at h; exact absurd h (by simp)) | (simp only [laws_FnJubileesCome.j6] at h; rw [if_neg (by decide)] at h; exact absurd h (by simp)) | (simp [laws_FnJubileesCome.j6] at h; done) | (simp [laws_FnJubileesCome.j6] at h; exact laws_FnJubileesCome.nodead h)
theorem laws_FnJubileesCome.dead1 (k : Nat) (y0 : List Int) (y1 : List Int) (y2 : Int) (y3 : Int) (y4 : Int) (y5 : List (List Int)) (y6 : Int) (y7 : Int) (y8 : Int) (y9 : Int) (y10 : Int) (y11 : Bool) (y12 : Int) (y13 : Int) (y14 : Int) (h : laws_FnJubileesCome.j7 k y0 y1 y2 y3 y4 y5 y6 y7 y8 y9 y10 y11 y12 y13 y14 true = some true) : False := by
  cases k with
  | zero => simp [laws_FnJubileesCome.j7] at h
  | succ k => first | (simp only [laws_FnJubileesCome.j7] at h; rw [if_pos rfl] at h; exact absurd h (by simp)) | (simp only [laws_FnJubileesCome.j7] at h; rw [if_neg (by decide)] at h; exact absurd h (by simp)) | (simp [laws_FnJubileesCome.j7] at h; done) | (simp [laws_FnJubileesCome.j7] at h; exact laws_FnJubileesCome.nodead h)
theorem laws_FnJubileesCome.dead2 (k : Nat) (y0 : List Int) (y1 : List Int) (y2 : Int) (y3 : Int) (y4 : Int) (y5 : Int) (y6 : Int) (y7 : Bool) (h : laws_FnJubileesCome.j8 k y0 y1 y2 y3 y4 y5 y6 y7 true = some true) : False := by
  cases k with
  | zero => simp [laws_FnJubileesCome.j8] at h
  | succ k => first | (simp only [laws_FnJubileesCome.j8] at h; rw [if_pos rfl] at h; exact absurd h (by simp)) | (simp only [laws_FnJubileesCome.j8] at h; rw [if_neg (by decide)] at h; exact absurd h (by simp)) | (simp [laws_FnJubileesCome.j8] at h; done) | (simp [laws_FnJubileesCome.j8] at h; exact laws_FnJubileesCome.nodead h)
theorem laws_FnJubileesCome.dead3 (k : Nat) (y0 : List Int) (y1 : Int) (y2 : List Int) (y3 : Int) (y4 : Int) (y5 : List Int) (y6 : Int) (y7 : List Int) (y8 : Bool) (y9 : Int) (y10 : Int) (y11 : Int) (y12 : Int) (y13 : List Int) (y14 : Bool) (h : laws_FnJubileesCome.j22 k y0 y1 y2 y3 y4 y5 y6 y7 y8 y9 y10 y11 y12 y13 y14 true = some true) : False := by
  cases k with
  | zero => simp [laws_FnJubileesCome.j22] at h
  | succ k => first | (simp only [laws_FnJubileesCome.j22] at h; rw [if_pos rfl] at h; exact absurd h (by simp)) | (simp only [laws_FnJubileesCome.j22] at h; rw [if_neg (by decide)] at h; exact absurd h (by simp)) | (simp [laws_FnJubileesCome.j22] at h; done) | (simp [laws_FnJubileesCome.j22] at h; exact laws_FnJubileesCome.nodead h)
def nthV : List Value → Nat → Value
  | [], _ => undef
  | x :: _, 0 => x
  | _ :: xs, n + 1 => nthV xs n
theorem list_nth (l : List Value) : l = (List.range l.length).map (nthV l) := by
  induction l with
  | nil => rfl
  | cons x xs ih =>
    rw [List.length_cons, List.range_succ_eq_map, List.map_cons, List.map_map]
    show x :: xs = x :: (List.range xs.length).map (fun i => nthV xs i)
    rw [← ih]
def withTail : Nat → Code → Code → Code
  | 0, _, R => R
  | n + 1, .seq a b, R => .seq a (withTail n b R)
  | _ + 1, c, _ => c
def dropSeq : Nat → Code → Code
  | 0, c => c
  | n + 1, .seq _ b => dropSeq n b
  | _ + 1, c => c
set_option maxRecDepth 100000 in
theorem laws_FnJubileesCome.frame (a : Act) (h1 : a.tmps.toList.length = 722) (h2 : a.defers = []) : ∃ uf : Nat → Value, a = ⟨#[uf 0, uf 1, uf 2, uf 3, uf 4, uf 5, uf 6, uf 7, uf 8, uf 9, uf 10, uf 11, uf 12, uf 13, uf 14, uf 15, uf 16, uf 17, uf 18, uf 19, uf 20, uf 21, uf 22, uf 23, uf 24, uf 25, uf 26, uf 27, uf 28, uf 29, uf 30, uf 31, uf 32, uf 33, uf 34, uf 35, uf 36, uf 37, uf 38, uf 39, uf 40, uf 41, uf 42, uf 43, uf 44, uf 45, uf 46, uf 47, uf 48, uf 49, uf 50, uf 51, uf 52, uf 53, uf 54, uf 55, uf 56, uf 57, uf 58, uf 59, uf 60, uf 61, uf 62, uf 63, uf 64, uf 65, uf 66, uf 67, uf 68, uf 69, uf 70, uf 71, uf 72, uf 73, uf 74, uf 75, uf 76, uf 77, uf 78, uf 79, uf 80, uf 81, uf 82, uf 83, uf 84, uf 85, uf 86, uf 87, uf 88, uf 89, uf 90, uf 91, uf 92, uf 93, uf 94, uf 95, uf 96, uf 97, uf 98, uf 99, uf 100, uf 101, uf 102, uf 103, uf 104, uf 105, uf 106, uf 107, uf 108, uf 109, uf 110, uf 111, uf 112, uf 113, uf 114, uf 115, uf 116, uf 117, uf 118, uf 119, uf 120, uf 121, uf 122, uf 123, uf 124, uf 125, uf 126, uf 127, uf 128, uf 129, uf 130, uf 131, uf 132, uf 133, uf 134, uf 135, uf 136, uf 137, uf 138, uf 139, uf 140, uf 141, uf 142, uf 143, uf 144, uf 145, uf 146, uf 147, uf 148, uf 149, uf 150, uf 151, uf 152, uf 153, uf 154, uf 155, uf 156, uf 157, uf 158, uf 159, uf 160, uf 161, uf 162, uf 163, uf 164, uf 165, uf 166, uf 167, uf 168, uf 169, uf 170, uf 171, uf 172, uf 173, uf 174, uf 175, uf 176, uf 177, uf 178, uf 179, uf 180, uf 181, uf 182, uf 183, uf 184, uf 185, uf 186, uf 187, uf 188, uf 189, uf 190, uf 191, uf 192, uf 193, uf 194, uf 195, uf 196, uf 197, uf 198, uf 199, uf 200, uf 201, uf 202, uf 203, uf 204, uf 205, uf 206, uf 207, uf 208, uf 209, uf 210, uf 211, uf 212, uf 213, uf 214, uf 215, uf 216, uf 217, uf 218, uf 219, uf 220, uf 221, uf 222, uf 223, uf 224, uf 225, uf 226, uf 227, uf 228, uf 229, uf 230, uf 231, uf 232, uf 233, uf 234, uf 235, uf 236, uf 237, uf 238, uf 239, uf 240, uf 241, uf 242, uf 243, uf 244, uf 245, uf 246, uf 247, uf 248, uf 249, uf 250, uf 251, uf 252, uf 253, uf 254, uf 255, uf 256, uf 257, uf 258, uf 259, uf 260, uf 261, uf 262, uf 263, uf 264, uf 265, uf 266, uf 267, uf 268, uf 269, uf 270, uf 271, uf 272, uf 273, uf 274, uf 275, uf 276, uf 277, uf 278, uf 279, uf 280, uf 281, uf 282, uf 283, uf 284, uf 285, uf 286, uf 287, uf 288, uf 289, uf 290, uf 291, uf 292, uf 293, uf 294, uf 295, uf 296, uf 297, uf 298, uf 299, uf 300, uf 301, uf 302, uf 303, uf 304, uf 305, uf 306, uf 307, uf 308, uf 309, uf 310, uf 311, uf 312, uf 313, uf 314, uf 315, uf 316, uf 317, uf 318, uf 319, uf 320, uf 321, uf 322, uf 323, uf 324, uf 325, uf 326, uf 327, uf 328, uf 329, uf 330, uf 331, uf 332, uf 333, uf 334, uf 335, uf 336, uf 337, uf 338, uf 339, uf 340, uf 341, uf 342, uf 343, uf 344, uf 345, uf 346, uf 347, uf 348, uf 349, uf 350, uf 351, uf 352, uf 353, uf 354, uf 355, uf 356, uf 357, uf 358, uf 359, uf 360, uf 361, uf 362, uf 363, uf 364, uf 365, uf 366, uf 367, uf 368, uf 369, uf 370, uf 371, uf 372, uf 373, uf 374, uf 375, uf 376, uf 377, uf 378, uf 379, uf 380, uf 381, uf 382, uf 383, uf 384, uf 385, uf 386, uf 387, uf 388, uf 389, uf 390, uf 391, uf 392, uf 393, uf 394, uf 395, uf 396, uf 397, uf 398, uf 399, uf 400, uf 401, uf 402, uf 403, uf 404, uf 405, uf 406, uf 407, uf 408, uf 409, uf 410, uf 411, uf 412, uf 413, uf 414, uf 415, uf 416, uf 417, uf 418, uf 419, uf 420, uf 421, uf 422, uf 423, uf 424, uf 425, uf 426, uf 427, uf 428, uf 429, uf 430, uf 431, uf 432, uf 433, uf 434, uf 435, uf 436, uf 437, uf 438, uf 439, uf 440, uf 441, uf 442, uf 443, uf 444, uf 445, uf 446, uf 447, uf 448, uf 449, uf 450, uf 451, uf 452, uf 453, uf 454, uf 455, uf 456, uf 457, uf 458, uf 459, uf 460, uf 461, uf 462, uf 463, uf 464, uf 465, uf 466, uf 467, uf 468, uf 469, uf 470, uf 471, uf 472, uf 473, uf 474, uf 475, uf 476, uf 477, uf 478, uf 479, uf 480, uf 481, uf 482, uf 483, uf 484, uf 485, uf 486, uf 487, uf 488, uf 489, uf 490, uf 491, uf 492, uf 493, uf 494, uf 495, uf 496, uf 497, uf 498, uf 499, uf 500, uf 501, uf 502, uf 503, uf 504, uf 505, uf 506, uf 507, uf 508, uf 509, uf 510, uf 511, uf 512, uf 513, uf 514, uf 515, uf 516, uf 517, uf 518, uf 519, uf 520, uf 521, uf 522, uf 523, uf 524, uf 525, uf 526, uf 527, uf 528, uf 529, uf 530, uf 531, uf 532, uf 533, uf 534, uf 535, uf 536, uf 537, uf 538, uf 539, uf 540, uf 541, uf 542, uf 543, uf 544, uf 545, uf 546, uf 547, uf 548, uf 549, uf 550, uf 551, uf 552, uf 553, uf 554, uf 555, uf 556, uf 557, uf 558, uf 559, uf 560, uf 561, uf 562, uf 563, uf 564, uf 565, uf 566, uf 567, uf 568, uf 569, uf 570, uf 571, uf 572, uf 573, uf 574, uf 575, uf 576, uf 577, uf 578, uf 579, uf 580, uf 581, uf 582, uf 583, uf 584, uf 585, uf 586, uf 587, uf 588, uf 589, uf 590, uf 591, uf 592, uf 593, uf 594, uf 595, uf 596, uf 597, uf 598, uf 599, uf 600, uf 601, uf 602, uf 603, uf 604, uf 605, uf 606, uf 607, uf 608, uf 609, uf 610, uf 611, uf 612, uf 613, uf 614, uf 615, uf 616, uf 617, uf 618, uf 619, uf 620, uf 621, uf 622, uf 623, uf 624, uf 625, uf 626, uf 627, uf 628, uf 629, uf 630, uf 631, uf 632, uf 633, uf 634, uf 635, uf 636, uf 637, uf 638, uf 639, uf 640, uf 641, uf 642, uf 643, uf 644, uf 645, uf 646, uf 647, uf 648, uf 649, uf 650, uf 651, uf 652, uf 653, uf 654, uf 655, uf 656, uf 657, uf 658, uf 659, uf 660, uf 661, uf 662, uf 663, uf 664, uf 665, uf 666, uf 667, uf 668, uf 669, uf 670, uf 671, uf 672, uf 673, uf 674, uf 675, uf 676, uf 677, uf 678, uf 679, uf 680, uf 681, uf 682, uf 683, uf 684, uf 685, uf 686, uf 687, uf 688, uf 689, uf 690, uf 691, uf 692, uf 693, uf 694, uf 695, uf 696, uf 697, uf 698, uf 699, uf 700, uf 701, uf 702, uf 703, uf 704, uf 705, uf 706, uf 707, uf 708, uf 709, uf 710, uf 711, uf 712, uf 713, uf 714, uf 715, uf 716, uf 717, uf 718, uf 719, uf 720, uf 721], []⟩ := by
  refine ⟨nthV a.tmps.toList, ?_⟩
  obtain ⟨⟨l⟩, d⟩ := a
  simp only at h1 h2
  subst h2
  have h := list_nth l
  rw [h1] at h
  show Act.mk ⟨l⟩ [] = ⟨⟨[nthV l 0, nthV l 1, nthV l 2, nthV l 3, nthV l 4, nthV l 5, nthV l 6, nthV l 7, nthV l 8, nthV l 9, nthV l 10, nthV l 11, nthV l 12, nthV l 13, nthV l 14, nthV l 15, nthV l 16, nthV l 17, nthV l 18, nthV l 19, nthV l 20, nthV l 21, nthV l 22, nthV l 23, nthV l 24, nthV l 25, nthV l 26, nthV l 27, nthV l 28, nthV l 29, nthV l 30, nthV l 31, nthV l 32, nthV l 33, nthV l 34, nthV l 35, nthV l 36, nthV l 37, nthV l 38, nthV l 39, nthV l 40, nthV l 41, nthV l 42, nthV l 43, nthV l 44, nthV l 45, nthV l 46, nthV l 47, nthV l 48, nthV l 49, nthV l 50, nthV l 51, nthV l 52, nthV l 53, nthV l 54, nthV l 55, nthV l 56, nthV l 57, nthV l 58, nthV l 59, nthV l 60, nthV l 61, nthV l 62, nthV l 63, nthV l 64, nthV l 65, nthV l 66, nthV l 67, nthV l 68, nthV l 69, nthV l 70, nthV l 71, nthV l 72, nthV l 73, nthV l 74, nthV l 75, nthV l 76, nthV l 77, nthV l 78, nthV l 79, nthV l 80, nthV l 81, nthV l 82, nthV l 83, nthV l 84, nthV l 85, nthV l 86, nthV l 87, nthV l 88, nthV l 89, nthV l 90, nthV l 91, nthV l 92, nthV l 93, nthV l 94, nthV l 95, nthV l 96, nthV l 97, nthV l 98, nthV l 99, nthV l 100, nthV l 101, nthV l 102, nthV l 103, nthV l 104, nthV l 105, nthV l 106, nthV l 107, nthV l 108, nthV l 109, nthV l 110, nthV l 111, nthV l 112, nthV l 113, nthV l 114, nthV l 115, nthV l 116, nthV l 117, nthV l 118, nthV l 119, nthV l 120, nthV l 121, nthV l 122, nthV l 123, nthV l 124, nthV l 125, nthV l 126, nthV l 127, nthV l 128, nthV l 129, nthV l 130, nthV l 131, nthV l 132, nthV l 133, nthV l 134, nthV l 135, nthV l 136, nthV l 137, nthV l 138, nthV l 139, nthV l 140, nthV l 141, nthV l 142, nthV l 143, nthV l 144, nthV l 145, nthV l 146, nthV l 147, nthV l 148, nthV l 149, nthV l 150, nthV l 151, nthV l 152, nthV l 153, nthV l 154, nthV l 155, nthV l 156, nthV l 157, nthV l 158, nthV l 159, nthV l 160, nthV l 161, nthV l 162, nthV l 163, nthV l 164, nthV l 165, nthV l 166, nthV l 167, nthV l 168, nthV l 169, nthV l 170, nthV l 171, nthV l 172, nthV l 173, nthV l 174, nthV l 175, nthV l 176, nthV l 177, nthV l 178, nthV l 179, nthV l 180, nthV l 181, nthV l 182, nthV l 183, nthV l 184, nthV l 185, nthV l 186, nthV l 187, nthV l 188, nthV l 189, nthV l 190, nthV l 191, nthV l 192, nthV l 193, nthV l 194, nthV l 195, nthV l 196, nthV l 197, nthV l 198, nthV l 199, nthV l 200, nthV l 201, nthV l 202, nthV l 203, nthV l 204, nthV l 205, nthV l 206, nthV l 207, nthV l 208, nthV l 209, nthV l 210, nthV l 211, nthV l 212, nthV l 213, nthV l 214, nthV l 215, nthV l 216, nthV l 217, nthV l 218, nthV l 219, nthV l 220, nthV l 221, nthV l 222, nthV l 223, nthV l 224, nthV l 225, nthV l 226, nthV l 227, nthV l 228, nthV l 229, nthV l 230, nthV l 231, nthV l 232, nthV l 233, nthV l 234, nthV l 235, nthV l 236, nthV l 237, nthV l 238, nthV l 239, nthV l 240, nthV l 241, nthV l 242, nthV l 243, nthV l 244, nthV l 245, nthV l 246, nthV l 247, nthV l 248, nthV l 249, nthV l 250, nthV l 251, nthV l 252, nthV l 253, nthV l 254, nthV l 255, nthV l 256, nthV l 257, nthV l 258, nthV l 259, nthV l 260, nthV l 261, nthV l 262, nthV l 263, nthV l 264, nthV l 265, nthV l 266, nthV l 267, nthV l 268, nthV l 269, nthV l 270, nthV l 271, nthV l 272, nthV l 273, nthV l 274, nthV l 275, nthV l 276, nthV l 277, nthV l 278, nthV l 279, nthV l 280, nthV l 281, nthV l 282, nthV l 283, nthV l 284, nthV l 285, nthV l 286, nthV l 287, nthV l 288, nthV l 289, nthV l 290, nthV l 291, nthV l 292, nthV l 293, nthV l 294, nthV l 295, nthV l 296, nthV l 297, nthV l 298, nthV l 299, nthV l 300, nthV l 301, nthV l 302, nthV l 303, nthV l 304, nthV l 305, nthV l 306, nthV l 307, nthV l 308, nthV l 309, nthV l 310, nthV l 311, nthV l 312, nthV l 313, nthV l 314, nthV l 315, nthV l 316, nthV l 317, nthV l 318, nthV l 319, nthV l 320, nthV l 321, nthV l 322, nthV l 323, nthV l 324, nthV l 325, nthV l 326, nthV l 327, nthV l 328, nthV l 329, nthV l 330, nthV l 331, nthV l 332, nthV l 333, nthV l 334, nthV l 335, nthV l 336, nthV l 337, nthV l 338, nthV l 339, nthV l 340, nthV l 341, nthV l 342, nthV l 343, nthV l 344, nthV l 345, nthV l 346, nthV l 347, nthV l 348, nthV l 349, nthV l 350, nthV l 351, nthV l 352, nthV l 353, nthV l 354, nthV l 355, nthV l 356, nthV l 357, nthV l 358, nthV l 359, nthV l 360, nthV l 361, nthV l 362, nthV l 363, nthV l 364, nthV l 365, nthV l 366, nthV l 367, nthV l 368, nthV l 369, nthV l 370, nthV l 371, nthV l 372, nthV l 373, nthV l 374, nthV l 375, nthV l 376, nthV l 377, nthV l 378, nthV l 379, nthV l 380, nthV l 381, nthV l 382, nthV l 383, nthV l 384, nthV l 385, nthV l 386, nthV l 387, nthV l 388, nthV l 389, nthV l 390, nthV l 391, nthV l 392, nthV l 393, nthV l 394, nthV l 395, nthV l 396, nthV l 397, nthV l 398, nthV l 399, nthV l 400, nthV l 401, nthV l 402, nthV l 403, nthV l 404, nthV l 405, nthV l 406, nthV l 407, nthV l 408, nthV l 409, nthV l 410, nthV l 411, nthV l 412, nthV l 413, nthV l 414, nthV l 415, nthV l 416, nthV l 417, nthV l 418, nthV l 419, nthV l 420, nthV l 421, nthV l 422, nthV l 423, nthV l 424, nthV l 425, nthV l 426, nthV l 427, nthV l 428, nthV l 429, nthV l 430, nthV l 431, nthV l 432, nthV l 433, nthV l 434, nthV l 435, nthV l 436, nthV l 437, nthV l 438, nthV l 439, nthV l 440, nthV l 441, nthV l 442, nthV l 443, nthV l 444, nthV l 445, nthV l 446, nthV l 447, nthV l 448, nthV l 449, nthV l 450, nthV l 451, nthV l 452, nthV l 453, nthV l 454, nthV l 455, nthV l 456, nthV l 457, nthV l 458, nthV l 459, nthV l 460, nthV l 461, nthV l 462, nthV l 463, nthV l 464, nthV l 465, nthV l 466, nthV l 467, nthV l 468, nthV l 469, nthV l 470, nthV l 471, nthV l 472, nthV l 473, nthV l 474, nthV l 475, nthV l 476, nthV l 477, nthV l 478, nthV l 479, nthV l 480, nthV l 481, nthV l 482, nthV l 483, nthV l 484, nthV l 485, nthV l 486, nthV l 487, nthV l 488, nthV l 489, nthV l 490, nthV l 491, nthV l 492, nthV l 493, nthV l 494, nthV l 495, nthV l 496, nthV l 497, nthV l 498, nthV l 499, nthV l 500, nthV l 501, nthV l 502, nthV l 503, nthV l 504, nthV l 505, nthV l 506, nthV l 507, nthV l 508, nthV l 509, nthV l 510, nthV l 511, nthV l 512, nthV l 513, nthV l 514, nthV l 515, nthV l 516, nthV l 517, nthV l 518, nthV l 519, nthV l 520, nthV l 521, nthV l 522, nthV l 523, nthV l 524, nthV l 525, nthV l 526, nthV l 527, nthV l 528, nthV l 529, nthV l 530, nthV l 531, nthV l 532, nthV l 533, nthV l 534, nthV l 535, nthV l 536, nthV l 537, nthV l 538, nthV l 539, nthV l 540, nthV l 541, nthV l 542, nthV l 543, nthV l 544, nthV l 545, nthV l 546, nthV l 547, nthV l 548, nthV l 549, nthV l 550, nthV l 551, nthV l 552, nthV l 553, nthV l 554, nthV l 555, nthV l 556, nthV l 557, nthV l 558, nthV l 559, nthV l 560, nthV l 561, nthV l 562, nthV l 563, nthV l 564, nthV l 565, nthV l 566, nthV l 567, nthV l 568, nthV l 569, nthV l 570, nthV l 571, nthV l 572, nthV l 573, nthV l 574, nthV l 575, nthV l 576, nthV l 577, nthV l 578, nthV l 579, nthV l 580, nthV l 581, nthV l 582, nthV l 583, nthV l 584, nthV l 585, nthV l 586, nthV l 587, nthV l 588, nthV l 589, nthV l 590, nthV l 591, nthV l 592, nthV l 593, nthV l 594, nthV l 595, nthV l 596, nthV l 597, nthV l 598, nthV l 599, nthV l 600, nthV l 601, nthV l 602, nthV l 603, nthV l 604, nthV l 605, nthV l 606, nthV l 607, nthV l 608, nthV l 609, nthV l 610, nthV l 611, nthV l 612, nthV l 613, nthV l 614, nthV l 615, nthV l 616, nthV l 617, nthV l 618, nthV l 619, nthV l 620, nthV l 621, nthV l 622, nthV l 623, nthV l 624, nthV l 625, nthV l 626, nthV l 627, nthV l 628, nthV l 629, nthV l 630, nthV l 631, nthV l 632, nthV l 633, nthV l 634, nthV l 635, nthV l 636, nthV l 637, nthV l 638, nthV l 639, nthV l 640, nthV l 641, nthV l 642, nthV l 643, nthV l 644, nthV l 645, nthV l 646, nthV l 647, nthV l 648, nthV l 649, nthV l 650, nthV l 651, nthV l 652, nthV l 653, nthV l 654, nthV l 655, nthV l 656, nthV l 657, nthV l 658, nthV l 659, nthV l 660, nthV l 661, nthV l 662, nthV l 663, nthV l 664, nthV l 665, nthV l 666, nthV l 667, nthV l 668, nthV l 669, nthV l 670, nthV l 671, nthV l 672, nthV l 673, nthV l 674, nthV l 675, nthV l 676, nthV l 677, nthV l 678, nthV l 679, nthV l 680, nthV l 681, nthV l 682, nthV l 683, nthV l 684, nthV l 685, nthV l 686, nthV l 687, nthV l 688, nthV l 689, nthV l 690, nthV l 691, nthV l 692, nthV l 693, nthV l 694, nthV l 695, nthV l 696, nthV l 697, nthV l 698, nthV l 699, nthV l 700, nthV l 701, nthV l 702, nthV l 703, nthV l 704, nthV l 705, nthV l 706, nthV l 707, nthV l 708, nthV l 709, nthV l 710, nthV l 711, nthV l 712, nthV l 713, nthV l 714, nthV l 715, nthV l 716, nthV l 717, nthV l 718, nthV l 719, nthV l 720, nthV l 721]⟩, []⟩
  exact congrArg (fun z => Act.mk ⟨z⟩ []) h
def laws_FnJubileesCome.pre2 (A0 : Option Addr) (c0 : Nat) (l0 : List Int) (A1 : Option Addr) (c1 : Nat) (l1 : List Int) (w : World) (a' : Act) (wc : World) : Prop := ∃ (kq : Nat), (a'.tmps.toList.length = 722 ∧ a'.defers = []) ∧ nthV a'.tmps.toList 0 = (.slice A0 l0.length c0) ∧ nthV a'.tmps.toList 1 = (.slice A1 l1.length c1) ∧ Aside0 (laws_FnJubileesCome.j0 kq l0 l1 = some true) ∧ Aside0 (Below w.heap.size w wc)
def laws_FnJubileesCome.pre5 (A0 : Option Addr) (c0 : Nat) (l0 : List Int) (A1 : Option Addr) (c1 : Nat) (l1 : List Int) (w : World) (a' : Act) (wc : World) : Prop := ∃ (kq : Nat) (x5_s5 : List Int) (x6_s5 : Int) (x7_s5 : Int) (x8_s5 : Int) (x9_s5 : List (List Int)) (x10_s5 : Bool) (x11_s5 : List (List Int)) (x12_s5 : Bool) (u5 : Value) (u9 : Value) (u11 : Value), (a'.tmps.toList.length = 722 ∧ a'.defers = []) ∧ nthV a'.tmps.toList 1 = (.slice A1 l1.length c1) ∧ nthV a'.tmps.toList 5 = u5 ∧ nthV a'.tmps.toList 6 = .int .i64 x6_s5 ∧ nthV a'.tmps.toList 7 = .int .i64 x7_s5 ∧ nthV a'.tmps.toList 8 = .int .i64 x8_s5 ∧ nthV a'.tmps.toList 9 = u9 ∧ nthV a'.tmps.toList 10 = .bool x10_s5 ∧ nthV a'.tmps.toList 11 = u11 ∧ nthV a'.tmps.toList 12 = .bool x12_s5 ∧ Aside0 (laws_FnJubileesCome.j1 kq l1 x5_s5 x6_s5 x7_s5 x8_s5 x9_s5 x10_s5 x11_s5 x12_s5 = some true) ∧ Aside0 (Kd.R (Kd.int .i64) 3 wc w.heap.size (fun _ => True) u5 x5_s5) ∧ Aside0 (Kd.S (Kd.slice 3 (Kd.int .i64)) 24 wc w.heap.size (fun k_ => some k_ ≠ (u5 : Value).ownBlock ∧ some k_ ≠ (u11 : Value).ownBlock) u9 x9_s5) ∧ Aside0 (Kd.S (Kd.slice 3 (Kd.int .i64)) 24 wc w.heap.size (fun k_ => some k_ ≠ (u5 : Value).ownBlock ∧ some k_ ≠ (u9 : Value).ownBlock) u11 x11_s5) ∧ Aside0 (Below w.heap.size w wc)
def laws_FnJubileesCome.pre8 (A0 : Option Addr) (c0 : Nat) (l0 : List Int) (A1 : Option Addr) (c1 : Nat) (l1 : List Int) (w : World) (a' : Act) (wc : World) : Prop := ∃ (kq : Nat) (x5_s8 : List Int) (x6_s8 : Int) (x7_s8 : Int) (x8_s8 : Int) (x9_s8 : List (List Int)) (x10_s8 : Bool) (x11_s8 : List (List Int)) (x12_s8 : Bool) (x13_s8 : Int) (x14_s8 : Bool) (x15_s8 : Int) (x16_s8 : Bool) (x17_s8 : Int) (x18_s8 : Int) (x19_s8 : Bool) (u5 : Value) (u9 : Value) (u11 : Value), (a'.tmps.toList.length = 722 ∧ a'.defers = []) ∧ nthV a'.tmps.toList 1 = (.slice A1 l1.length c1) ∧ nthV a'.tmps.toList 5 = u5 ∧ nthV a'.tmps.toList 6 = .int .i64 x6_s8 ∧ nthV a'.tmps.toList 7 = .int .i64 x7_s8 ∧ nthV a'.tmps.toList 8 = .int .i64 x8_s8 ∧ nthV a'.tmps.toList 9 = u9 ∧ nthV a'.tmps.toList 10 = .bool x10_s8 ∧ nthV a'.tmps.toList 11 = u11 ∧ nthV a'.tmps.toList 12 = .bool x12_s8 ∧ nthV a'.tmps.toList 13 = .int .i64 x13_s8 ∧ nthV a'.tmps.toList 14 = .bool x14_s8 ∧ nthV a'.tmps.toList 15 = .int .i64 x15_s8 ∧ nthV a'.tmps.toList 16 = .bool x16_s8 ∧ nthV a'.tmps.toList 17 = .int .i64 x17_s8 ∧ nthV a'.tmps.toList 18 = .int .i64 x18_s8 ∧ nthV a'.tmps.toList 19 = .bool x19_s8 ∧ Aside0 (laws_FnJubileesCome.j2 kq l1 x5_s8 x6_s8 x7_s8 x8_s8 x9_s8 x10_s8 x11_s8 x12_s8 x13_s8 x14_s8 x15_s8 x16_s8 x17_s8 x18_s8 x19_s8 = some true) ∧ Aside0 (Kd.R (Kd.int .i64) 3 wc w.heap.size (fun _ => True) u5 x5_s8) ∧ Aside0 (Kd.S (Kd.slice 3 (Kd.int .i64)) 24 wc w.heap.size (fun k_ => some k_ ≠ (u5 : Value).ownBlock ∧ some k_ ≠ (u11 : Value).ownBlock) u9 x9_s8) ∧ Aside0 (Kd.S (Kd.slice 3 (Kd.int .i64)) 24 wc w.heap.size (fun k_ => some k_ ≠ (u5 : Value).ownBlock ∧ some k_ ≠ (u9 : Value).ownBlock) u11 x11_s8) ∧ Aside0 (Below w.heap.size w wc)
def laws_FnJubileesCome.pre11 (A0 : Option Addr) (c0 : Nat) (l0 : List Int) (A1 : Option Addr) (c1 : Nat) (l1 : List Int) (w : World) (a' : Act) (wc : World) : Prop := ∃ (kq : Nat) (x5_s11 : List Int) (x6_s11 : Int) (x7_s11 : Int) (x8_s11 : Int) (x9_s11 : List (List Int)) (x10_s11 : Bool) (x11_s11 : List (List Int)) (x12_s11 : Bool) (x13_s11 : Int) (x14_s11 : Bool) (x15_s11 : Int) (x16_s11 : Bool) (x17_s11 : Int) (x18_s11 : Int) (x19_s11 : Bool) (x20_s11 : Int) (x21_s11 : Int) (x22_s11 : Bool) (x23_s11 : Int) (x24_s11 : Int) (x25_s11 : Bool) (x26_s11 : Int) (x27_s11 : Int) (x28_s11 : Bool) (u5 : Value) (u9 : Value) (u11 : Value), (a'.tmps.toList.length = 722 ∧ a'.defers = []) ∧ nthV a'.tmps.toList 1 = (.slice A1 l1.length c1) ∧ nthV a'.tmps.toList 5 = u5 ∧ nthV a'.tmps.toList 6 = .int .i64 x6_s11 ∧ nthV a'.tmps.toList 7 = .int .i64 x7_s11 ∧ nthV a'.tmps.toList 8 = .int .i64 x8_s11 ∧ nthV a'.tmps.toList 9 = u9 ∧ nthV a'.tmps.toList 10 = .bool x10_s11 ∧ nthV a'.tmps.toList 11 = u11 ∧ nthV a'.tmps.toList 12 = .bool x12_s11 ∧ nthV a'.tmps.toList 13 = .int .i64 x13_s11 ∧ nthV a'.tmps.toList 14 = .bool x14_s11 ∧ nthV a'.tmps.toList 15 = .int .i64 x15_s11 ∧ nthV a'.tmps.toList 16 = .bool x16_s11 ∧ nthV a'.tmps.toList 17 = .int .i64 x17_s11 ∧ nthV a'.tmps.toList 18 = .int .i64 x18_s11 ∧ nthV a'.tmps.toList 19 = .bool x19_s11 ∧ nthV a'.tmps.toList 20 = .int .i64 x20_s11 ∧ nthV a'.tmps.toList 21 = .int .i64 x21_s11 ∧ nthV a'.tmps.toList 22 = .bool x22_s11 ∧ nthV a'.tmps.toList 23 = .int .i64 x23_s11 ∧ nthV a'.tmps.toList 24 = .int .i64 x24_s11 ∧ nthV a'.tmps.toList 25 = .bool x25_s11 ∧ nthV a'.tmps.toList 26 = .int .i64 x26_s11 ∧ nthV a'.tmps.toList 27 = .int .i64 x27_s11 ∧ nthV a'.tmps.toList 28 = .bool x28_s11 ∧ Aside0 (laws_FnJubileesCome.j3 kq l1 x5_s11 x6_s11 x7_s11 x8_s11 x9_s11 x10_s11 x11_s11 x12_s11 x13_s11 x14_s11 x15_s11 x16_s11 x17_s11 x18_s11 x19_s11 x20_s11 x21_s11 x22_s11 x23_s11 x24_s11 x25_s11 x26_s11 x27_s11 x28_s11 = some true) ∧ Aside0 (Kd.R (Kd.int .i64) 3 wc w.heap.size (fun _ => True) u5 x5_s11) ∧ Aside0 (Kd.S (Kd.slice 3 (Kd.int .i64)) 24 wc w.heap.size (fun k_ => some k_ ≠ (u5 : Value).ownBlock ∧ some k_ ≠ (u11 : Value).ownBlock) u9 x9_s11) ∧ Aside0 (Kd.S (Kd.slice 3 (Kd.int .i64)) 24 wc w.heap.size (fun k_ => some k_ ≠ (u5 : Value).ownBlock ∧ some k_ ≠ (u9 : Value).ownBlock) u11 x11_s11) ∧ Aside0 (Below w.heap.size w wc)
def laws_FnJubileesCome.pre12 (A0 : Option Addr) (c0 : Nat) (l0 : List Int) (A1 : Option Addr) (c1 : Nat) (l1 : List Int) (w : World) (a' : Act) (wc : World) : Prop := ∃ (kq : Nat) (x5_s12 : List Int) (x6_s12 : Int) (x7_s12 : Int) (x8_s12 : Int) (x9_s12 : List (List Int)) (x10_s12 : Bool) (x13_s12 : Int) (x17_s12 : Int) (x18_s12 : Int) (x23_s12 : Int) (x24_s12 : Int) (x25_s12 : Bool) (u5 : Value) (u9 : Value), (a'.tmps.toList.length = 722 ∧ a'.defers = []) ∧ nthV a'.tmps.toList 1 = (.slice A1 l1.length c1) ∧ nthV a'.tmps.toList 5 = u5 ∧ nthV a'.tmps.toList 6 = .int .i64 x6_s12 ∧ nthV a'.tmps.toList 7 = .int .i64 x7_s12 ∧ nthV a'.tmps.toList 8 = .int .i64 x8_s12 ∧ nthV a'.tmps.toList 9 = u9 ∧ nthV a'.tmps.toList 10 = .bool x10_s12 ∧ nthV a'.tmps.toList 13 = .int .i64 x13_s12 ∧ nthV a'.tmps.toList 17 = .int .i64 x17_s12 ∧ nthV a'.tmps.toList 18 = .int .i64 x18_s12 ∧ nthV a'.tmps.toList 23 = .int .i64 x23_s12 ∧ nthV a'.tmps.toList 24 = .int .i64 x24_s12 ∧ nthV a'.tmps.toList 25 = .bool x25_s12 ∧ Aside0 (laws_FnJubileesCome.j4 kq l1 x5_s12 x6_s12 x7_s12 x8_s12 x9_s12 x10_s12 x13_s12 x17_s12 x18_s12 x23_s12 x24_s12 x25_s12 = some true) ∧ Aside0 (Kd.R (Kd.int .i64) 3 wc w.heap.size (fun _ => True) u5 x5_s12) ∧ Aside0 (Kd.S (Kd.slice 3 (Kd.int .i64)) 24 wc w.heap.size (fun k_ => some k_ ≠ (u5 : Value).ownBlock) u9 x9_s12) ∧ Aside0 (Below w.heap.size w wc)
def laws_FnJubileesCome.pre13 (A0 : Option Addr) (c0 : Nat) (l0 : List Int) (A1 : Option Addr) (c1 : Nat) (l1 : List Int) (w : World) (a' : Act) (wc : World) : Prop := ∃ (kq : Nat), (a'.tmps.toList.length = 722 ∧ a'.defers = []) ∧ nthV a'.tmps.toList 1 = (.slice A1 l1.length c1) ∧ Aside0 (laws_FnJubileesCome.j10 kq l1 = some true) ∧ Aside0 (Below w.heap.size w wc)
def laws_FnJubileesCome.pre16 (A0 : Option Addr) (c0 : Nat) (l0 : List Int) (A1 : Option Addr) (c1 : Nat) (l1 : List Int) (w : World) (a' : Act) (wc : World) : Prop := ∃ (kq : Nat) (x38_s16 : List Int) (x39_s16 : Int) (x40_s16 : Int) (x41_s16 : Int) (x42_s16 : Bool) (x43_s16 : Int) (x44_s16 : Bool) (u38 : Value), (a'.tmps.toList.length = 722 ∧ a'.defers = []) ∧ nthV a'.tmps.toList 1 = (.slice A1 l1.length c1) ∧ nthV a'.tmps.toList 38 = u38 ∧ nthV a'.tmps.toList 39 = .int .i64 x39_s16 ∧ nthV a'.tmps.toList 40 = .int .i64 x40_s16 ∧ nthV a'.tmps.toList 41 = .int .i64 x41_s16 ∧ nthV a'.tmps.toList 42 = .bool x42_s16 ∧ nthV a'.tmps.toList 43 = .int .i64 x43_s16 ∧ nthV a'.tmps.toList 44 = .bool x44_s16 ∧ Aside0 (laws_FnJubileesCome.j11 kq l1 x38_s16 x39_s16 x40_s16 x41_s16 x42_s16 x43_s16 x44_s16 = some true) ∧ Aside0 (Kd.R (Kd.int .i64) 3 wc w.heap.size (fun _ => True) u38 x38_s16) ∧ Aside0 (Below w.heap.size w wc)
def laws_FnJubileesCome.pre19 (A0 : Option Addr) (c0 : Nat) (l0 : List Int) (A1 : Option Addr) (c1 : Nat) (l1 : List Int) (w : World) (a' : Act) (wc : World) : Prop := ∃ (kq : Nat) (x38_s19 : List Int) (x39_s19 : Int) (x40_s19 : Int) (x41_s19 : Int) (x42_s19 : Bool) (x43_s19 : Int) (x44_s19 : Bool) (x45_s19 : List Int) (x46_s19 : Bool) (x47_s19 : List Int) (x48_s19 : Bool) (x49_s19 : Int) (x50_s19 : Int) (x51_s19 : Bool) (u38 : Value) (u45 : Value) (u47 : Value), (a'.tmps.toList.length = 722 ∧ a'.defers = []) ∧ nthV a'.tmps.toList 1 = (.slice A1 l1.length c1) ∧ nthV a'.tmps.toList 38 = u38 ∧ nthV a'.tmps.toList 39 = .int .i64 x39_s19 ∧ nthV a'.tmps.toList 40 = .int .i64 x40_s19 ∧ nthV a'.tmps.toList 41 = .int .i64 x41_s19 ∧ nthV a'.tmps.toList 42 = .bool x42_s19 ∧ nthV a'.tmps.toList 43 = .int .i64 x43_s19 ∧ nthV a'.tmps.toList 44 = .bool x44_s19 ∧ nthV a'.tmps.toList 45 = u45 ∧ nthV a'.tmps.toList 46 = .bool x46_s19 ∧ nthV a'.tmps.toList 47 = u47 ∧ nthV a'.tmps.toList 48 = .bool x48_s19 ∧ nthV a'.tmps.toList 49 = .int .i64 x49_s19 ∧ nthV a'.tmps.toList 50 = .int .i64 x50_s19 ∧ nthV a'.tmps.toList 51 = .bool x51_s19 ∧ Aside0 (laws_FnJubileesCome.j12 kq l1 x38_s19 x39_s19 x40_s19 x41_s19 x42_s19 x43_s19 x44_s19 x45_s19 x46_s19 x47_s19 x48_s19 x49_s19 x50_s19 x51_s19 = some true) ∧ Aside0 (Kd.R (Kd.int .i64) 3 wc w.heap.size (fun k_ => some k_ ≠ (u45 : Value).ownBlock ∧ some k_ ≠ (u47 : Value).ownBlock) u38 x38_s19) ∧ Aside0 (Kd.R (Kd.int .i64) 3 wc w.heap.size (fun k_ => some k_ ≠ (u38 : Value).ownBlock ∧ some k_ ≠ (u47 : Value).ownBlock) u45 x45_s19) ∧ Aside0 (Kd.R (Kd.int .i64) 3 wc w.heap.size (fun k_ => some k_ ≠ (u38 : Value).ownBlock ∧ some k_ ≠ (u45 : Value).ownBlock) u47 x47_s19) ∧ Aside0 (Below w.heap.size w wc)
def laws_FnJubileesCome.pre22 (A0 : Option Addr) (c0 : Nat) (l0 : List Int) (A1 : Option Addr) (c1 : Nat) (l1 : List Int) (w : World) (a' : Act) (wc : World) : Prop := ∃ (kq : Nat) (x38_s22 : List Int) (x39_s22 : Int) (x40_s22 : Int) (x41_s22 : Int) (x42_s22 : Bool) (x43_s22 : Int) (x44_s22 : Bool) (x45_s22 : List Int) (x46_s22 : Bool) (x47_s22 : List Int) (x48_s22 : Bool) (x49_s22 : Int) (x50_s22 : Int) (x51_s22 : Bool) (x52_s22 : Int) (x53_s22 : Int) (x54_s22 : Bool) (x55_s22 : List Int) (x56_s22 : Int) (x57_s22 : List Int) (x58_s22 : Bool) (u38 : Value) (u45 : Value) (u47 : Value) (u55 : Value) (u57 : Value), (a'.tmps.toList.length = 722 ∧ a'.defers = []) ∧ nthV a'.tmps.toList 1 = (.slice A1 l1.length c1) ∧ nthV a'.tmps.toList 38 = u38 ∧ nthV a'.tmps.toList 39 = .int .i64 x39_s22 ∧ nthV a'.tmps.toList 40 = .int .i64 x40_s22 ∧ nthV a'.tmps.toList 41 = .int .i64 x41_s22 ∧ nthV a'.tmps.toList 42 = .bool x42_s22 ∧ nthV a'.tmps.toList 43 = .int .i64 x43_s22 ∧ nthV a'.tmps.toList 44 = .bool x44_s22 ∧ nthV a'.tmps.toList 45 = u45 ∧ nthV a'.tmps.toList 46 = .bool x46_s22 ∧ nthV a'.tmps.toList 47 = u47 ∧ nthV a'.tmps.toList 48 = .bool x48_s22 ∧ nthV a'.tmps.toList 49 = .int .i64 x49_s22 ∧ nthV a'.tmps.toList 50 = .int .i64 x50_s22 ∧ nthV a'.tmps.toList 51 = .bool x51_s22 ∧ nthV a'.tmps.toList 52 = .int .i64 x52_s22 ∧ nthV a'.tmps.toList 53 = .int .i64 x53_s22 ∧ nthV a'.tmps.toList 54 = .bool x54_s22 ∧ nthV a'.tmps.toList 55 = u55 ∧ nthV a'.tmps.toList 56 = .int .i64 x56_s22 ∧ nthV a'.tmps.toList 57 = u57 ∧ nthV a'.tmps.toList 58 = .bool x58_s22 ∧ Aside0 (laws_FnJubileesCome.j13 kq l1 x38_s22 x39_s22 x40_s22 x41_s22 x42_s22 x43_s22 x44_s22 x45_s22 x46_s22 x47_s22 x48_s22 x49_s22 x50_s22 x51_s22 x52_s22 x53_s22 x54_s22 x55_s22 x56_s22 x57_s22 x58_s22 = some true) ∧ Aside0 (Kd.R (Kd.int .i64) 3 wc w.heap.size (fun k_ => some k_ ≠ (u45 : Value).ownBlock ∧ some k_ ≠ (u47 : Value).ownBlock ∧ some k_ ≠ (u55 : Value).ownBlock ∧ some k_ ≠ (u57 : Value).ownBlock) u38 x38_s22) ∧ Aside0 (Kd.R (Kd.int .i64) 3 wc w.heap.size (fun k_ => some k_ ≠ (u38 : Value).ownBlock ∧ some k_ ≠ (u47 : Value).ownBlock ∧ some k_ ≠ (u55 : Value).ownBlock ∧ some k_ ≠ (u57 : Value).ownBlock) u45 x45_s22) ∧ Aside0 (Kd.R (Kd.int .i64) 3 wc w.heap.size (fun k_ => some k_ ≠ (u38 : Value).ownBlock ∧ some k_ ≠ (u45 : Value).ownBlock ∧ some k_ ≠ (u55 : Value).ownBlock ∧ some k_ ≠ (u57 : Value).ownBlock) u47 x47_s22) ∧ Aside0 (Kd.R (Kd.int .i64) 3 wc w.heap.size (fun k_ => some k_ ≠ (u38 : Value).ownBlock ∧ some k_ ≠ (u45 : Value).ownBlock ∧ some k_ ≠ (u47 : Value).ownBlock ∧ some k_ ≠ (u57 : Value).ownBlock) u55 x55_s22) ∧ Aside0 (Kd.R (Kd.int .i64) 3 wc w.heap.size (fun k_ => some k_ ≠ (u38 : Value).ownBlock ∧ some k_ ≠ (u45 : Value).ownBlock ∧ some k_ ≠ (u47 : Value).ownBlock ∧ some k_ ≠ (u55 : Value).ownBlock) u57 x57_s22) ∧ Aside0 (Below w.heap.size w wc)
def laws_FnJubileesCome.pre25 (A0 : Option Addr) (c0 : Nat) (l0 : List Int) (A1 : Option Addr) (c1 : Nat) (l1 : List Int) (w : World) (a' : Act) (wc : World) : Prop := ∃ (kq : Nat) (x38_s25 : List Int) (x39_s25 : Int) (x40_s25 : Int) (x41_s25 : Int) (x42_s25 : Bool) (x43_s25 : Int) (x44_s25 : Bool) (x45_s25 : List Int) (x46_s25 : Bool) (x47_s25 : List Int) (x48_s25 : Bool) (x49_s25 : Int) (x50_s25 : Int) (x51_s25 : Bool) (x52_s25 : Int) (x53_s25 : Int) (x54_s25 : Bool) (x55_s25 : List Int) (x56_s25 : Int) (x57_s25 : List Int) (x58_s25 : Bool) (x59_s25 : List Int) (x60_s25 : Bool) (x61_s25 : Int) (x62_s25 : Int) (x63_s25 : Int) (x64_s25 : Int) (x65_s25 : List Int) (x66_s25 : Bool) (u38 : Value) (u45 : Value) (u47 : Value) (u55 : Value) (u57 : Value) (u59 : Value) (u65 : Value), (a'.tmps.toList.length = 722 ∧ a'.defers = []) ∧ nthV a'.tmps.toList 38 = u38 ∧ nthV a'.tmps.toList 39 = .int .i64 x39_s25 ∧ nthV a'.tmps.toList 40 = .int .i64 x40_s25 ∧ nthV a'.tmps.toList 41 = .int .i64 x41_s25 ∧ nthV a'.tmps.toList 42 = .bool x42_s25 ∧ nthV a'.tmps.toList 43 = .int .i64 x43_s25 ∧ nthV a'.tmps.toList 44 = .bool x44_s25 ∧ nthV a'.tmps.toList 45 = u45 ∧ nthV a'.tmps.toList 46 = .bool x46_s25 ∧ nthV a'.tmps.toList 47 = u47 ∧ nthV a'.tmps.toList 48 = .bool x48_s25 ∧ nthV a'.tmps.toList 49 = .int .i64 x49_s25 ∧ nthV a'.tmps.toList 50 = .int .i64 x50_s25 ∧ nthV a'.tmps.toList 51 = .bool x51_s25 ∧ nthV a'.tmps.toList 52 = .int .i64 x52_s25 ∧ nthV a'.tmps.toList 53 = .int .i64 x53_s25 ∧ nthV a'.tmps.toList 54 = .bool x54_s25 ∧ nthV a'.tmps.toList 55 = u55 ∧ nthV a'.tmps.toList 56 = .int .i64 x56_s25 ∧ nthV a'.tmps.toList 57 = u57 ∧ nthV a'.tmps.toList 58 = .bool x58_s25 ∧ nthV a'.tmps.toList 59 = u59 ∧ nthV a'.tmps.toList 60 = .bool x60_s25 ∧ nthV a'.tmps.toList 61 = .int .i64 x61_s25 ∧ nthV a'.tmps.toList 62 = .int .i64 x62_s25 ∧ nthV a'.tmps.toList 63 = .int .i64 x63_s25 ∧ nthV a'.tmps.toList 64 = .int .i64 x64_s25 ∧ nthV a'.tmps.toList 65 = u65 ∧ nthV a'.tmps.toList 66 = .bool x66_s25 ∧ Aside0 (laws_FnJubileesCome.j14 kq x38_s25 x39_s25 x40_s25 x41_s25 x42_s25 x43_s25 x44_s25 x45_s25 x46_s25 x47_s25 x48_s25 x49_s25 x50_s25 x51_s25 x52_s25 x53_s25 x54_s25 x55_s25 x56_s25 x57_s25 x58_s25 x59_s25 x60_s25 x61_s25 x62_s25 x63_s25 x64_s25 x65_s25 x66_s25 = some true) ∧ Aside0 (Kd.R (Kd.int .i64) 3 wc w.heap.size (fun k_ => some k_ ≠ (u45 : Value).ownBlock ∧ some k_ ≠ (u47 : Value).ownBlock ∧ some k_ ≠ (u55 : Value).ownBlock ∧ some k_ ≠ (u57 : Value).ownBlock ∧ some k_ ≠ (u59 : Value).ownBlock ∧ some k_ ≠ (u65 : Value).ownBlock) u38 x38_s25) ∧ Aside0 (Kd.R (Kd.int .i64) 3 wc w.heap.size (fun k_ => some k_ ≠ (u38 : Value).ownBlock ∧ some k_ ≠ (u47 : Value).ownBlock ∧ some k_ ≠ (u55 : Value).ownBlock ∧ some k_ ≠ (u57 : Value).ownBlock ∧ some k_ ≠ (u59 : Value).ownBlock ∧ some k_ ≠ (u65 : Value).ownBlock) u45 x45_s25) ∧ Aside0 (Kd.R (Kd.int .i64) 3 wc w.heap.size (fun k_ => some k_ ≠ (u38 : Value).ownBlock ∧ some k_ ≠ (u45 : Value).ownBlock ∧ some k_ ≠ (u55 : Value).ownBlock ∧ some k_ ≠ (u57 : Value).ownBlock ∧ some k_ ≠ (u59 : Value).ownBlock ∧ some k_ ≠ (u65 : Value).ownBlock) u47 x47_s25) ∧ Aside0 (Kd.R (Kd.int .i64) 3 wc w.heap.size (fun k_ => some k_ ≠ (u38 : Value).ownBlock ∧ some k_ ≠ (u45 : Value).ownBlock ∧ some k_ ≠ (u47 : Value).ownBlock ∧ some k_ ≠ (u57 : Value).ownBlock ∧ some k_ ≠ (u59 : Value).ownBlock ∧ some k_ ≠ (u65 : Value).ownBlock) u55 x55_s25) ∧ Aside0 (Kd.R (Kd.int .i64) 3 wc w.heap.size (fun k_ => some k_ ≠ (u38 : Value).ownBlock ∧ some k_ ≠ (u45 : Value).ownBlock ∧ some k_ ≠ (u47 : Value).ownBlock ∧ some k_ ≠ (u55 : Value).ownBlock ∧ some k_ ≠ (u59 : Value).ownBlock ∧ some k_ ≠ (u65 : Value).ownBlock) u57 x57_s25) ∧ Aside0 (Kd.R (Kd.int .i64) 3 wc w.heap.size (fun k_ => some k_ ≠ (u38 : Value).ownBlock ∧ some k_ ≠ (u45 : Value).ownBlock ∧ some k_ ≠ (u47 : Value).ownBlock ∧ some k_ ≠ (u55 : Value).ownBlock ∧ some k_ ≠ (u57 : Value).ownBlock ∧ some k_ ≠ (u65 : Value).ownBlock) u59 x59_s25) ∧ Aside0 (Kd.R (Kd.int .i64) 3 wc w.heap.size (fun k_ => some k_ ≠ (u38 : Value).ownBlock ∧ some k_ ≠ (u45 : Value).ownBlock ∧ some k_ ≠ (u47 : Value).ownBlock ∧ some k_ ≠ (u55 : Value).ownBlock ∧ some k_ ≠ (u57 : Value).ownBlock ∧ some k_ ≠ (u59 : Value).ownBlock) u65 x65_s25) ∧ Aside0 (Below w.heap.size w wc)
def laws_FnJubileesCome.pre26 (A0 : Option Addr) (c0 : Nat) (l0 : List Int) (A1 : Option Addr) (c1 : Nat) (l1 : List Int) (w : World) (a' : Act) (wc : World) : Prop := ∃ (kq : Nat) (x38_s26 : List Int) (x39_s26 : Int) (x40_s26 : Int) (x41_s26 : Int) (x42_s26 : Bool) (x43_s26 : Int) (x44_s26 : Bool) (x45_s26 : List Int) (x46_s26 : Bool) (x47_s26 : List Int) (x48_s26 : Bool) (x49_s26 : Int) (x50_s26 : Int) (x51_s26 : Bool) (x52_s26 : Int) (x53_s26 : Int) (x54_s26 : Bool) (x55_s26 : List Int) (x56_s26 : Int) (x57_s26 : List Int) (x58_s26 : Bool) (x59_s26 : List Int) (x60_s26 : Bool) (x61_s26 : Int) (x62_s26 : Int) (x63_s26 : Int) (x64_s26 : Int) (x65_s26 : List Int) (x66_s26 : Bool) (x67_s26 : List Int) (x68_s26 : Bool) (u38 : Value) (u45 : Value) (u47 : Value) (u55 : Value) (u57 : Value) (u59 : Value) (u65 : Value) (u67 : Value), (a'.tmps.toList.length = 722 ∧ a'.defers = []) ∧ nthV a'.tmps.toList 38 = u38 ∧ nthV a'.tmps.toList 39 = .int .i64 x39_s26 ∧ nthV a'.tmps.toList 40 = .int .i64 x40_s26 ∧ nthV a'.tmps.toList 41 = .int .i64 x41_s26 ∧ nthV a'.tmps.toList 42 = .bool x42_s26 ∧ nthV a'.tmps.toList 43 = .int .i64 x43_s26 ∧ nthV a'.tmps.toList 44 = .bool x44_s26 ∧ nthV a'.tmps.toList 45 = u45 ∧ nthV a'.tmps.toList 46 = .bool x46_s26 ∧ nthV a'.tmps.toList 47 = u47 ∧ nthV a'.tmps.toList 48 = .bool x48_s26 ∧ nthV a'.tmps.toList 49 = .int .i64 x49_s26 ∧ nthV a'.tmps.toList 50 = .int .i64 x50_s26 ∧ nthV a'.tmps.toList 51 = .bool x51_s26 ∧ nthV a'.tmps.toList 52 = .int .i64 x52_s26 ∧ nthV a'.tmps.toList 53 = .int .i64 x53_s26 ∧ nthV a'.tmps.toList 54 = .bool x54_s26 ∧ nthV a'.tmps.toList 55 = u55 ∧ nthV a'.tmps.toList 56 = .int .i64 x56_s26 ∧ nthV a'.tmps.toList 57 = u57 ∧ nthV a'.tmps.toList 58 = .bool x58_s26 ∧ nthV a'.tmps.toList 59 = u59 ∧ nthV a'.tmps.toList 60 = .bool x60_s26 ∧ nthV a'.tmps.toList 61 = .int .i64 x61_s26 ∧ nthV a'.tmps.toList 62 = .int .i64 x62_s26 ∧ nthV a'.tmps.toList 63 = .int .i64 x63_s26 ∧ nthV a'.tmps.toList 64 = .int .i64 x64_s26 ∧ nthV a'.tmps.toList 65 = u65 ∧ nthV a'.tmps.toList 66 = .bool x66_s26 ∧ nthV a'.tmps.toList 67 = u67 ∧ nthV a'.tmps.toList 68 = .bool x68_s26 ∧ Aside0 (laws_FnJubileesCome.j15 kq x38_s26 x39_s26 x40_s26 x41_s26 x42_s26 x43_s26 x44_s26 x45_s26 x46_s26 x47_s26 x48_s26 x49_s26 x50_s26 x51_s26 x52_s26 x53_s26 x54_s26 x55_s26 x56_s26 x57_s26 x58_s26 x59_s26 x60_s26 x61_s26 x62_s26 x63_s26 x64_s26 x65_s26 x66_s26 x67_s26 x68_s26 = some true) ∧ Aside0 (Kd.R (Kd.int .i64) 3 wc w.heap.size (fun k_ => some k_ ≠ (u45 : Value).ownBlock ∧ some k_ ≠ (u47 : Value).ownBlock ∧ some k_ ≠ (u55 : Value).ownBlock ∧ some k_ ≠ (u57 : Value).ownBlock ∧ some k_ ≠ (u59 : Value).ownBlock ∧ some k_ ≠ (u65 : Value).ownBlock ∧ some k_ ≠ (u67 : Value).ownBlock) u38 x38_s26) ∧ Aside0 (Kd.R (Kd.int .i64) 3 wc w.heap.size (fun k_ => some k_ ≠ (u38 : Value).ownBlock ∧ some k_ ≠ (u47 : Value).ownBlock ∧ some k_ ≠ (u55 : Value).ownBlock ∧ some k_ ≠ (u57 : Value).ownBlock ∧ some k_ ≠ (u59 : Value).ownBlock ∧ some k_ ≠ (u65 : Value).ownBlock ∧ some k_ ≠ (u67 : Value).ownBlock) u45 x45_s26) ∧ Aside0 (Kd.R (Kd.int .i64) 3 wc w.heap.size (fun k_ => some k_ ≠ (u38 : Value).ownBlock ∧ some k_ ≠ (u45 : Value).ownBlock ∧ some k_ ≠ (u55 : Value).ownBlock ∧ some k_ ≠ (u57 : Value).ownBlock ∧ some k_ ≠ (u59 : Value).ownBlock ∧ some k_ ≠ (u65 : Value).ownBlock ∧ some k_ ≠ (u67 : Value).ownBlock) u47 x47_s26) ∧ Aside0 (Kd.R (Kd.int .i64) 3 wc w.heap.size (fun k_ => some k_ ≠ (u38 : Value).ownBlock ∧ some k_ ≠ (u45 : Value).ownBlock ∧ some k_ ≠ (u47 : Value).ownBlock ∧ some k_ ≠ (u57 : Value).ownBlock ∧ some k_ ≠ (u59 : Value).ownBlock ∧ some k_ ≠ (u65 : Value).ownBlock ∧ some k_ ≠ (u67 : Value).ownBlock) u55 x55_s26) ∧ Aside0 (Kd.R (Kd.int .i64) 3 wc w.heap.size (fun k_ => some k_ ≠ (u38 : Value).ownBlock ∧ some k_ ≠ (u45 : Value).ownBlock ∧ some k_ ≠ (u47 : Value).ownBlock ∧ some k_ ≠ (u55 : Value).ownBlock ∧ some k_ ≠ (u59 : Value).ownBlock ∧ some k_ ≠ (u65 : Value).ownBlock ∧ some k_ ≠ (u67 : Value).ownBlock) u57 x57_s26) ∧ Aside0 (Kd.R (Kd.int .i64) 3 wc w.heap.size (fun k_ => some k_ ≠ (u38 : Value).ownBlock ∧ some k_ ≠ (u45 : Value).ownBlock ∧ some k_ ≠ (u47 : Value).ownBlock ∧ some k_ ≠ (u55 : Value).ownBlock ∧ some k_ ≠ (u57 : Value).ownBlock ∧ some k_ ≠ (u65 : Value).ownBlock ∧ some k_ ≠ (u67 : Value).ownBlock) u59 x59_s26) ∧ Aside0 (Kd.R (Kd.int .i64) 3 wc w.heap.size (fun k_ => some k_ ≠ (u38 : Value).ownBlock ∧ some k_ ≠ (u45 : Value).ownBlock ∧ some k_ ≠ (u47 : Value).ownBlock ∧ some k_ ≠ (u55 : Value).ownBlock ∧ some k_ ≠ (u57 : Value).ownBlock ∧ some k_ ≠ (u59 : Value).ownBlock ∧ some k_ ≠ (u67 : Value).ownBlock) u65 x65_s26) ∧ Aside0 (Kd.R (Kd.int .i64) 3 wc w.heap.size (fun k_ => some k_ ≠ (u38 : Value).ownBlock ∧ some k_ ≠ (u45 : Value).ownBlock ∧ some k_ ≠ (u47 : Value).ownBlock ∧ some k_ ≠ (u55 : Value).ownBlock ∧ some k_ ≠ (u57 : Value).ownBlock ∧ some k_ ≠ (u59 : Value).ownBlock ∧ some k_ ≠ (u65 : Value).ownBlock) u67 x67_s26) ∧ Aside0 (Below w.heap.size w wc)
def laws_FnJubileesCome.pre27 (A0 : Option Addr) (c0 : Nat) (l0 : List Int) (A1 : Option Addr) (c1 : Nat) (l1 : List Int) (w : World) (a' : Act) (wc : World) : Prop := ∃ (kq : Nat) (x38_s27 : List Int) (x39_s27 : Int) (x40_s27 : Int) (x41_s27 : Int) (x42_s27 : Bool) (x45_s27 : List Int) (x46_s27 : Bool) (x49_s27 : Int) (x50_s27 : Int) (x51_s27 : Bool) (x55_s27 : List Int) (x56_s27 : Int) (x57_s27 : List Int) (x58_s27 : Bool) (x61_s27 : Int) (x62_s27 : Int) (x63_s27 : Int) (x64_s27 : Int) (x65_s27 : List Int) (x66_s27 : Bool) (u38 : Value) (u45 : Value) (u55 : Value) (u57 : Value) (u65 : Value), (a'.tmps.toList.length = 722 ∧ a'.defers = []) ∧ nthV a'.tmps.toList 38 = u38 ∧ nthV a'.tmps.toList 39 = .int .i64 x39_s27 ∧ nthV a'.tmps.toList 40 = .int .i64 x40_s27 ∧ nthV a'.tmps.toList 41 = .int .i64 x41_s27 ∧ nthV a'.tmps.toList 42 = .bool x42_s27 ∧ nthV a'.tmps.toList 45 = u45 ∧ nthV a'.tmps.toList 46 = .bool x46_s27 ∧ nthV a'.tmps.toList 49 = .int .i64 x49_s27 ∧ nthV a'.tmps.toList 50 = .int .i64 x50_s27 ∧ nthV a'.tmps.toList 51 = .bool x51_s27 ∧ nthV a'.tmps.toList 55 = u55 ∧ nthV a'.tmps.toList 56 = .int .i64 x56_s27 ∧ nthV a'.tmps.toList 57 = u57 ∧ nthV a'.tmps.toList 58 = .bool x58_s27 ∧ nthV a'.tmps.toList 61 = .int .i64 x61_s27 ∧ nthV a'.tmps.toList 62 = .int .i64 x62_s27 ∧ nthV a'.tmps.toList 63 = .int .i64 x63_s27 ∧ nthV a'.tmps.toList 64 = .int .i64 x64_s27 ∧ nthV a'.tmps.toList 65 = u65 ∧ nthV a'.tmps.toList 66 = .bool x66_s27 ∧ Aside0 (laws_FnJubileesCome.j16 kq x38_s27 x39_s27 x40_s27 x41_s27 x42_s27 x45_s27 x46_s27 x49_s27 x50_s27 x51_s27 x55_s27 x56_s27 x57_s27 x58_s27 x61_s27 x62_s27 x63_s27 x64_s27 x65_s27 x66_s27 = some true) ∧ Aside0 (Kd.R (Kd.int .i64) 3 wc w.heap.size (fun k_ => some k_ ≠ (u45 : Value).ownBlock ∧ some k_ ≠ (u55 : Value).ownBlock ∧ some k_ ≠ (u57 : Value).ownBlock ∧ some k_ ≠ (u65 : Value).ownBlock) u38 x38_s27) ∧ Aside0 (Kd.R (Kd.int .i64) 3 wc w.heap.size (fun k_ => some k_ ≠ (u38 : Value).ownBlock ∧ some k_ ≠ (u55 : Value).ownBlock ∧ some k_ ≠ (u57 : Value).ownBlock ∧ some k_ ≠ (u65 : Value).ownBlock) u45 x45_s27) ∧ Aside0 (Kd.R (Kd.int .i64) 3 wc w.heap.size (fun k_ => some k_ ≠ (u38 : Value).ownBlock ∧ some k_ ≠ (u45 : Value).ownBlock ∧ some k_ ≠ (u57 : Value).ownBlock ∧ some k_ ≠ (u65 : Value).ownBlock) u55 x55_s27) ∧ Aside0 (Kd.R (Kd.int .i64) 3 wc w.heap.size (fun k_ => some k_ ≠ (u38 : Value).ownBlock ∧ some k_ ≠ (u45 : Value).ownBlock ∧ some k_ ≠ (u55 : Value).ownBlock ∧ some k_ ≠ (u65 : Value).ownBlock) u57 x57_s27) ∧ Aside0 (Kd.R (Kd.int .i64) 3 wc w.heap.size (fun k_ => some k_ ≠ (u38 : Value).ownBlock ∧ some k_ ≠ (u45 : Value).ownBlock ∧ some k_ ≠ (u55 : Value).ownBlock ∧ some k_ ≠ (u57 : Value).ownBlock) u65 x65_s27) ∧ Aside0 (Below w.heap.size w wc)
def laws_FnJubileesCome.pre28 (A0 : Option Addr) (c0 : Nat) (l0 : List Int) (A1 : Option Addr) (c1 : Nat) (l1 : List Int) (w : World) (a' : Act) (wc : World) : Prop := ∃ (kq : Nat) (x38_s28 : List Int) (x39_s28 : Int) (x40_s28 : Int) (x41_s28 : Int) (x42_s28 : Bool) (x45_s28 : List Int) (x49_s28 : Int) (x50_s28 : Int) (x51_s28 : Bool) (x55_s28 : List Int) (x56_s28 : Int) (x57_s28 : List Int) (x58_s28 : Bool) (x61_s28 : Int) (x62_s28 : Int) (x63_s28 : Int) (x64_s28 : Int) (x65_s28 : List Int) (x66_s28 : Bool) (u38 : Value) (u45 : Value) (u55 : Value) (u57 : Value) (u65 : Value), (a'.tmps.toList.length = 722 ∧ a'.defers = []) ∧ nthV a'.tmps.toList 38 = u38 ∧ nthV a'.tmps.toList 39 = .int .i64 x39_s28 ∧ nthV a'.tmps.toList 40 = .int .i64 x40_s28 ∧ nthV a'.tmps.toList 41 = .int .i64 x41_s28 ∧ nthV a'.tmps.toList 42 = .bool x42_s28 ∧ nthV a'.tmps.toList 45 = u45 ∧ nthV a'.tmps.toList 49 = .int .i64 x49_s28 ∧ nthV a'.tmps.toList 50 = .int .i64 x50_s28 ∧ nthV a'.tmps.toList 51 = .bool x51_s28 ∧ nthV a'.tmps.toList 55 = u55 ∧ nthV a'.tmps.toList 56 = .int .i64 x56_s28 ∧ nthV a'.tmps.toList 57 = u57 ∧ nthV a'.tmps.toList 58 = .bool x58_s28 ∧ nthV a'.tmps.toList 61 = .int .i64 x61_s28 ∧ nthV a'.tmps.toList 62 = .int .i64 x62_s28 ∧ nthV a'.tmps.toList 63 = .int .i64 x63_s28 ∧ nthV a'.tmps.toList 64 = .int .i64 x64_s28 ∧ nthV a'.tmps.toList 65 = u65 ∧ nthV a'.tmps.toList 66 = .bool x66_s28 ∧ Aside0 (laws_FnJubileesCome.j18 kq x38_s28 x39_s28 x40_s28 x41_s28 x42_s28 x45_s28 x49_s28 x50_s28 x51_s28 x55_s28 x56_s28 x57_s28 x58_s28 x61_s28 x62_s28 x63_s28 x64_s28 x65_s28 x66_s28 = some true) ∧ Aside0 (Kd.R (Kd.int .i64) 3 wc w.heap.size (fun k_ => some k_ ≠ (u45 : Value).ownBlock ∧ some k_ ≠ (u55 : Value).ownBlock ∧ some k_ ≠ (u57 : Value).ownBlock ∧ some k_ ≠ (u65 : Value).ownBlock) u38 x38_s28) ∧ Aside0 (Kd.R (Kd.int .i64) 3 wc w.heap.size (fun k_ => some k_ ≠ (u38 : Value).ownBlock ∧ some k_ ≠ (u55 : Value).ownBlock ∧ some k_ ≠ (u57 : Value).ownBlock ∧ some k_ ≠ (u65 : Value).ownBlock) u45 x45_s28) ∧ Aside0 (Kd.R (Kd.int .i64) 3 wc w.heap.size (fun k_ => some k_ ≠ (u38 : Value).ownBlock ∧ some k_ ≠ (u45 : Value).ownBlock ∧ some k_ ≠ (u57 : Value).ownBlock ∧ some k_ ≠ (u65 : Value).ownBlock) u55 x55_s28) ∧ Aside0 (Kd.R (Kd.int .i64) 3 wc w.heap.size (fun k_ => some k_ ≠ (u38 : Value).ownBlock ∧ some k_ ≠ (u45 : Value).ownBlock ∧ some k_ ≠ (u55 : Value).ownBlock ∧ some k_ ≠ (u65 : Value).ownBlock) u57 x57_s28) ∧ Aside0 (Kd.R (Kd.int .i64) 3 wc w.heap.size (fun k_ => some k_ ≠ (u38 : Value).ownBlock ∧ some k_ ≠ (u45 : Value).ownBlock ∧ some k_ ≠ (u55 : Value).ownBlock ∧ some k_ ≠ (u57 : Value).ownBlock) u65 x65_s28) ∧ Aside0 (Below w.heap.size w wc)
def laws_FnJubileesCome.pre29 (A0 : Option Addr) (c0 : Nat) (l0 : List Int) (A1 : Option Addr) (c1 : Nat) (l1 : List Int) (w : World) (a' : Act) (wc : World) : Prop := ∃ (kq : Nat) (x38_s29 : List Int) (x39_s29 : Int) (x45_s29 : List Int) (x49_s29 : Int) (x50_s29 : Int) (x51_s29 : Bool) (x55_s29 : List Int) (x56_s29 : Int) (x57_s29 : List Int) (x58_s29 : Bool) (x61_s29 : Int) (x62_s29 : Int) (x63_s29 : Int) (x64_s29 : Int) (x65_s29 : List Int) (x66_s29 : Bool) (u38 : Value) (u45 : Value) (u55 : Value) (u57 : Value) (u65 : Value), (a'.tmps.toList.length = 722 ∧ a'.defers = []) ∧ nthV a'.tmps.toList 38 = u38 ∧ nthV a'.tmps.toList 39 = .int .i64 x39_s29 ∧ nthV a'.tmps.toList 45 = u45 ∧ nthV a'.tmps.toList 49 = .int .i64 x49_s29 ∧ nthV a'.tmps.toList 50 = .int .i64 x50_s29 ∧ nthV a'.tmps.toList 51 = .bool x51_s29 ∧ nthV a'.tmps.toList 55 = u55 ∧ nthV a'.tmps.toList 56 = .int .i64 x56_s29 ∧ nthV a'.tmps.toList 57 = u57 ∧ nthV a'.tmps.toList 58 = .bool x58_s29 ∧ nthV a'.tmps.toList 61 = .int .i64 x61_s29 ∧ nthV a'.tmps.toList 62 = .int .i64 x62_s29 ∧ nthV a'.tmps.toList 63 = .int .i64 x63_s29 ∧ nthV a'.tmps.toList 64 = .int .i64 x64_s29 ∧ nthV a'.tmps.toList 65 = u65 ∧ nthV a'.tmps.toList 66 = .bool x66_s29 ∧ Aside0 (laws_FnJubileesCome.j21 kq x38_s29 x39_s29 x45_s29 x49_s29 x50_s29 x51_s29 x55_s29 x56_s29 x57_s29 x58_s29 x61_s29 x62_s29 x63_s29 x64_s29 x65_s29 x66_s29 = some true) ∧ Aside0 (Kd.R (Kd.int .i64) 3 wc w.heap.size (fun k_ => some k_ ≠ (u45 : Value).ownBlock ∧ some k_ ≠ (u55 : Value).ownBlock ∧ some k_ ≠ (u57 : Value).ownBlock ∧ some k_ ≠ (u65 : Value).ownBlock) u38 x38_s29) ∧ Aside0 (Kd.R (Kd.int .i64) 3 wc w.heap.size (fun k_ => some k_ ≠ (u38 : Value).ownBlock ∧ some k_ ≠ (u55 : Value).ownBlock ∧ some k_ ≠ (u57 : Value).ownBlock ∧ some k_ ≠ (u65 : Value).ownBlock) u45 x45_s29) ∧ Aside0 (Kd.R (Kd.int .i64) 3 wc w.heap.size (fun k_ => some k_ ≠ (u38 : Value).ownBlock ∧ some k_ ≠ (u45 : Value).ownBlock ∧ some k_ ≠ (u57 : Value).ownBlock ∧ some k_ ≠ (u65 : Value).ownBlock) u55 x55_s29) ∧ Aside0 (Kd.R (Kd.int .i64) 3 wc w.heap.size (fun k_ => some k_ ≠ (u38 : Value).ownBlock ∧ some k_ ≠ (u45 : Value).ownBlock ∧ some k_ ≠ (u55 : Value).ownBlock ∧ some k_ ≠ (u65 : Value).ownBlock) u57 x57_s29) ∧ Aside0 (Kd.R (Kd.int .i64) 3 wc w.heap.size (fun k_ => some k_ ≠ (u38 : Value).ownBlock ∧ some k_ ≠ (u45 : Value).ownBlock ∧ some k_ ≠ (u55 : Value).ownBlock ∧ some k_ ≠ (u57 : Value).ownBlock) u65 x65_s29) ∧ Aside0 (Below w.heap.size w wc)
def laws_FnJubileesCome.pre30 (A0 : Option Addr) (c0 : Nat) (l0 : List Int) (A1 : Option Addr) (c1 : Nat) (l1 : List Int) (w : World) (a' : Act) (wc : World) : Prop := ∃ (kq : Nat) (x55_s30 : List Int) (x56_s30 : Int) (x57_s30 : List Int) (x58_s30 : Bool) (x61_s30 : Int) (x62_s30 : Int) (x63_s30 : Int) (x64_s30 : Int) (x65_s30 : List Int) (x66_s30 : Bool) (u55 : Value) (u57 : Value) (u65 : Value), (a'.tmps.toList.length = 722 ∧ a'.defers = []) ∧ nthV a'.tmps.toList 55 = u55 ∧ nthV a'.tmps.toList 56 = .int .i64 x56_s30 ∧ nthV a'.tmps.toList 57 = u57 ∧ nthV a'.tmps.toList 58 = .bool x58_s30 ∧ nthV a'.tmps.toList 61 = .int .i64 x61_s30 ∧ nthV a'.tmps.toList 62 = .int .i64 x62_s30 ∧ nthV a'.tmps.toList 63 = .int .i64 x63_s30 ∧ nthV a'.tmps.toList 64 = .int .i64 x64_s30 ∧ nthV a'.tmps.toList 65 = u65 ∧ nthV a'.tmps.toList 66 = .bool x66_s30 ∧ Aside0 (laws_FnJubileesCome.j24 kq x55_s30 x56_s30 x57_s30 x58_s30 x61_s30 x62_s30 x63_s30 x64_s30 x65_s30 x66_s30 = some true) ∧ Aside0 (Kd.R (Kd.int .i64) 3 wc w.heap.size (fun k_ => some k_ ≠ (u57 : Value).ownBlock ∧ some k_ ≠ (u65 : Value).ownBlock) u55 x55_s30) ∧ Aside0 (Kd.R (Kd.int .i64) 3 wc w.heap.size (fun k_ => some k_ ≠ (u55 : Value).ownBlock ∧ some k_ ≠ (u65 : Value).ownBlock) u57 x57_s30) ∧ Aside0 (Kd.R (Kd.int .i64) 3 wc w.heap.size (fun k_ => some k_ ≠ (u55 : Value).ownBlock ∧ some k_ ≠ (u57 : Value).ownBlock) u65 x65_s30) ∧ Aside0 (Below w.heap.size w wc)
def laws_FnJubileesCome.pre31 (A0 : Option Addr) (c0 : Nat) (l0 : List Int) (A1 : Option Addr) (c1 : Nat) (l1 : List Int) (w : World) (a' : Act) (wc : World) : Prop := ∃ (kq : Nat) (x61_s31 : Int) (x62_s31 : Int) (x63_s31 : Int) (x64_s31 : Int) (x65_s31 : List Int) (x66_s31 : Bool) (u65 : Value), (a'.tmps.toList.length = 722 ∧ a'.defers = []) ∧ nthV a'.tmps.toList 61 = .int .i64 x61_s31 ∧ nthV a'.tmps.toList 62 = .int .i64 x62_s31 ∧ nthV a'.tmps.toList 63 = .int .i64 x63_s31 ∧ nthV a'.tmps.toList 64 = .int .i64 x64_s31 ∧ nthV a'.tmps.toList 65 = u65 ∧ nthV a'.tmps.toList 66 = .bool x66_s31 ∧ Aside0 (laws_FnJubileesCome.j26 kq x61_s31 x62_s31 x63_s31 x64_s31 x65_s31 x66_s31 = some true) ∧ Aside0 (Kd.R (Kd.int .i64) 3 wc w.heap.size (fun _ => True) u65 x65_s31) ∧ Aside0 (Below w.heap.size w wc)
def laws_FnJubileesCome.pre32 (A0 : Option Addr) (c0 : Nat) (l0 : List Int) (A1 : Option Addr) (c1 : Nat) (l1 : List Int) (w : World) (a' : Act) (wc : World) : Prop := ∃ (kq : Nat), (a'.tmps.toList.length = 722 ∧ a'.defers = []) ∧ Aside0 (laws_FnJubileesCome.j28 kq  = some true) ∧ Aside0 (Below w.heap.size w wc)

noncomputable def laws_FnJubileesCome.code32 : Code := dropSeq 32 (Try.f3.body.getD .skip)
set_option maxHeartbeats 40000000 in
set_option maxRecDepth 100000 in
theorem laws_FnJubileesCome.st32 (A0 : Option Addr) (c0 : Nat) (l0 : List Int) (A1 : Option Addr) (c1 : Nat) (l1 : List Int) (w : World) (hr0 : Kd.C (Kd.int .u8) w A0 l0.length l0) (hc0 : l0.length ≤ c0) (hr1 : Kd.C (Kd.int .u8) w A1 l1.length l1) (hc1 : l1.length ≤ c1) (a' : Act) (wc : World) (hP : laws_FnJubileesCome.pre32 A0 c0 l0 A1 c1 l1 w a' wc) :
    Code.wp Try.prog (laws_FnJubileesCome.code32) (bodyPost Try.prog Try.f3 (fun e w' => e = .returned (.bool true) ∧ Below w.heap.size w w')) a' wc := by
  have HR0 := Aside0.mk hr0
  have HC0 := Aside0.mk hc0
  clear hr0 hc0
  have HR1 := Aside0.mk hr1
  have HC1 := Aside0.mk hc1
  clear hr1 hc1
  unfold laws_FnJubileesCome.pre32 at hP
  obtain ⟨kq, ⟨hlen, hdef⟩, HA, HB⟩ := hP
  obtain ⟨uf, rfl⟩ := laws_FnJubileesCome.frame a' hlen hdef
  clear hlen hdef
  dsimp only [laws_FnJubileesCome.code32, withTail, dropSeq, Try.f3, Option.getD]
  rcases kq with _ | kj_s32
  · exact absurd HA.out (by simp [laws_FnJubileesCome.j28])
  have H := HA.out
  clear HA
  simp only [laws_FnJubileesCome.j28] at H
  clear H
  go_wp2
  go_ret
  exact ⟨by first | rfl | (simp [errW_none, errW_some] <;> rfl) | (simp [*, errW_none, errW_some] <;> rfl), by repeat (first | (with_reducible first | exact HB.out | apply below_alloc | apply pw_below_drewN | apply below_drew1) | exact HB.out)⟩

noncomputable def laws_FnJubileesCome.code31 (R : Code) : Code := withTail 1 (dropSeq 31 (Try.f3.body.getD .skip)) R
set_option maxHeartbeats 40000000 in
set_option maxRecDepth 100000 in
theorem laws_FnJubileesCome.st31 (A0 : Option Addr) (c0 : Nat) (l0 : List Int) (A1 : Option Addr) (c1 : Nat) (l1 : List Int) (w : World) (hr0 : Kd.C (Kd.int .u8) w A0 l0.length l0) (hc0 : l0.length ≤ c0) (hr1 : Kd.C (Kd.int .u8) w A1 l1.length l1) (hc1 : l1.length ≤ c1) (R : Code) (hR : ∀ (a' : Act) (wc : World), laws_FnJubileesCome.pre32 A0 c0 l0 A1 c1 l1 w a' wc → Code.wp Try.prog R (bodyPost Try.prog Try.f3 (fun e w' => e = .returned (.bool true) ∧ Below w.heap.size w w')) a' wc) (a' : Act) (wc : World) (hP : laws_FnJubileesCome.pre31 A0 c0 l0 A1 c1 l1 w a' wc) :
    Code.wp Try.prog (laws_FnJubileesCome.code31 R) (bodyPost Try.prog Try.f3 (fun e w' => e = .returned (.bool true) ∧ Below w.heap.size w w')) a' wc := by
  have HR0 := Aside0.mk hr0
  have HC0 := Aside0.mk hc0
  clear hr0 hc0
  have HR1 := Aside0.mk hr1
  have HC1 := Aside0.mk hc1
  clear hr1 hc1
  unfold laws_FnJubileesCome.pre31 at hP
  obtain ⟨kq, x61_s31, x62_s31, x63_s31, x64_s31, x65_s31, x66_s31, u65, ⟨hlen, hdef⟩, hq61, hq62, hq63, hq64, hq65, hq66, HA, HO_65, HB⟩ := hP
  obtain ⟨uf, rfl⟩ := laws_FnJubileesCome.frame a' hlen hdef
  clear hlen hdef
  have he61 : uf 61 = .int .i64 x61_s31 := hq61
  clear hq61
  have he62 : uf 62 = .int .i64 x62_s31 := hq62
  clear hq62
  have he63 : uf 63 = .int .i64 x63_s31 := hq63
  clear hq63
  have he64 : uf 64 = .int .i64 x64_s31 := hq64
  clear hq64
  have he65 : uf 65 = u65 := hq65
  clear hq65
  have he66 : uf 66 = .bool x66_s31 := hq66
  clear hq66
  simp only [he61, he62, he63, he64, he65, he66]
  clear he61 he62 he63 he64 he65 he66
  dsimp only [laws_FnJubileesCome.code31, withTail, dropSeq, Try.f3, Option.getD]
  rcases kq with _ | kj_s31
  · exact absurd HA.out (by simp [laws_FnJubileesCome.j26])
  have H := HA.out
  clear HA
  simp only [laws_FnJubileesCome.j26] at H
  by_cases c244 : x66_s31 = true
  rotate_left
  · replace c244 := Bool.eq_false_iff.mpr c244
    subst c244
    have H1 : (laws_FnJubileesCome.j28 kj_s31) = some true := by rw [if_neg (show ¬ (false = true) by decide)] at H; first | done | exact H
    clear H
    have H := H1
    clear H1
    have H' := Aside0.mk H
    clear H
    go_wp2
    refine hR _ _ ?_
    unfold laws_FnJubileesCome.pre32
    exact ⟨_, ⟨rfl, rfl⟩, H', ⟨by repeat (first | (with_reducible first | exact HB.out | apply below_alloc | apply pw_below_drewN | apply below_drew1) | exact HB.out)⟩⟩
  subst c244
  have H1 : (laws_FnJubileesCome.l6 kj_s31 x61_s31 x63_s31 x64_s31 x65_s31 x62_s31) = some true := by rw [if_pos rfl] at H; first | done | exact H
  clear H
  have H := H1
  clear H1
  have H' := Aside0.mk H
  clear H
  go_wp2
  go_loopg [82] kj_s31 (fun kq v82 w' => ∃ (x82_1 : Int), v82 = .int .i64 x82_1 ∧ Aside0 (laws_FnJubileesCome.l6 kq x61_s31 x63_s31 x64_s31 x65_s31 x82_1 = some true) ∧ Aside0 (kq ≤ kj_s31) ∧ Aside0 (Kd.R (Kd.int .i64) 3 w' w.heap.size (fun _ => True) u65 x65_s31) ∧ Aside0 (Below w.heap.size w w'))
  case atStart => exact ⟨(x62_s31), (by first | rfl | (simp; done) | (simp [*]; done)), H', ⟨Nat.le_refl _⟩, ⟨by (with_reducible repeat (first | apply Kd.R_alloc | apply Kd.R_drewN | apply Kd.R_drew)); exact HO_65.out⟩, ⟨by repeat (first | (with_reducible first | exact HB.out | apply below_alloc | apply pw_below_drewN | apply below_drew1) | exact HB.out)⟩⟩
  clear H'
  try clear c244
  obtain ⟨x82_1, rfl, HA, HK1, HO_65, HB⟩ := hrel
  rcases gk with _ | k1
  · exact absurd HA.out (by simp [laws_FnJubileesCome.l6])
  have H := HA.out
  clear HA
  simp only [laws_FnJubileesCome.l6] at H
  by_cases c245 : x82_1 ≤ x63_s31
  rotate_left
  · rw [if_neg c245] at H
    have c245b0 : decide (x82_1 ≤ x63_s31) = false := decide_eq_false c245
    clear c245
    have H' := Aside0.mk H
    clear H
    go_wp2
    refine hR _ _ ?_
    unfold laws_FnJubileesCome.pre32
    exact ⟨_, ⟨rfl, rfl⟩, H', ⟨by repeat (first | (with_reducible first | exact HB.out | apply below_alloc | apply pw_below_drewN | apply below_drew1) | exact HB.out)⟩⟩
  rw [if_pos c245] at H
  have c245b0 : decide (x82_1 ≤ x63_s31) = true := decide_eq_true c245
  clear c245
  replace H := Option.bind_eq_some_iff.mp H
  obtain ⟨t557, A2460, H⟩ := H
  replace H : (if x82_1 > x61_s31 then (if x64_s31 = 0 then (none) else (if (t557 != ((Int.tmod (wrap64 (x82_1 - x61_s31)) x64_s31) == 0)) = true then (some false) else (laws_FnJubileesCome.l6 k1 x61_s31 x63_s31 x64_s31 x65_s31 (wrap64 (x82_1 + 1))))) else (if (t557 != false) = true then (some false) else (laws_FnJubileesCome.l6 k1 x61_s31 x63_s31 x64_s31 x65_s31 (wrap64 (x82_1 + 1))))) = some true := H
  have A246 := Aside0.mk A2460
  clear A2460
  by_cases c247 : x82_1 > x61_s31
  rotate_left
  · rw [if_neg c247] at H
    have c247b0 : decide (x61_s31 < x82_1) = false := decide_eq_false c247
    clear c247
    by_cases c251 : (t557 != false) = true
    · rw [if_pos c251] at H
      have c251b0 : (t557 != false) = true := c251
      (try (have c251b1 : decide (t557 = false) = false := by simpa using c251))
      (try (have c251b2 : (t557 == false) = false := by simpa using c251))
      (try (have c251b3 : ¬ (t557 = false) := by simpa using c251))
      clear c251
      exact absurd H (by simp)
    rw [if_neg c251] at H
    have c251b0 : (t557 != false) = false := by simpa using c251
    (try (have c251b1 : decide (t557 = false) = true := by simpa using c251))
    (try (have c251b2 : (t557 == false) = true := by simpa using c251))
    clear c251
    have H' := Aside0.mk H
    clear H
    obtain ⟨Ao252, co252, eo252⟩ := Kd.R_slice HO_65.out
    subst eo252
    go_wp2_with (first | ((with_reducible refine gate_callee (f := 32) rfl ?_); refine goesL_ (some 709) rfl rfl Try.func32 (by kernel_rfl) rfl #[.slice Ao252 x65_s31.length co252, .int .i64 x82_1] rfl (by (try simp only [List.map_toArray, List.map_cons, List.map_nil]); first | done | rfl | (simp only [List.length_drop, List.length_take]; rfl)) ?_; (with_reducible refine (laws_qHas.calls k1 _ _ x65_s31 x82_1 t557 _ ?side1 ?side2 A246.out).mono ?_); (case side1 => repeat (first | exact (Kd.R_reads' HO_65.out).2.2 | (with_reducible refine Kd.C_alloc ?_ _) | (with_reducible refine Kd.C_drewN ?_ _) | (with_reducible refine Kd.C_drew ?_))); (case side2 => exact (Kd.R_reads' HO_65.out).2.1); rintro e w' ⟨rfl, ⟨nd, rfl⟩⟩; refine ⟨_, rfl, ?_⟩))
    go_roundg k1
    case measure => have := HK1.out; omega
    case rel => exact ⟨(wrap64 (x82_1 + 1)), (by first | rfl | (simp; done) | (simp [*]; done)), H', ⟨by have := HK1.out; omega⟩, ⟨by (with_reducible repeat (first | apply Kd.R_alloc | apply Kd.R_drewN | apply Kd.R_drew)); exact HO_65.out⟩, ⟨by repeat (first | (with_reducible first | exact HB.out | apply below_alloc | apply pw_below_drewN | apply below_drew1) | exact HB.out)⟩⟩
  rw [if_pos c247] at H
  have c247b0 : decide (x61_s31 < x82_1) = true := decide_eq_true c247
  clear c247
  by_cases c248 : x64_s31 = 0
  · rw [if_pos c248] at H
    exact absurd H (by simp)
  rw [if_neg c248] at H
  have c248b0 : (x64_s31 == 0) = false := beq_eq_false_iff_ne.mpr c248
  have c248b1 : (x64_s31 != 0) = true := bne_iff_ne.mpr c248
  by_cases c249 : (t557 != ((Int.tmod (wrap64 (x82_1 - x61_s31)) x64_s31) == 0)) = true
  · rw [if_pos c249] at H
    have c249b0 : (t557 != ((Int.tmod (wrap64 (x82_1 - x61_s31)) x64_s31) == 0)) = true := c249
    (try (have c249b1 : decide (t557 = ((Int.tmod (wrap64 (x82_1 - x61_s31)) x64_s31) == 0)) = false := by simpa using c249))
    (try (have c249b2 : (t557 == ((Int.tmod (wrap64 (x82_1 - x61_s31)) x64_s31) == 0)) = false := by simpa using c249))
    (try (have c249b3 : ¬ (t557 = ((Int.tmod (wrap64 (x82_1 - x61_s31)) x64_s31) == 0)) := by simpa using c249))
    clear c249
    exact absurd H (by simp)
  rw [if_neg c249] at H
  have c249b0 : (t557 != ((Int.tmod (wrap64 (x82_1 - x61_s31)) x64_s31) == 0)) = false := by simpa using c249
  (try (have c249b1 : decide (t557 = ((Int.tmod (wrap64 (x82_1 - x61_s31)) x64_s31) == 0)) = true := by simpa using c249))
  (try (have c249b2 : (t557 == ((Int.tmod (wrap64 (x82_1 - x61_s31)) x64_s31) == 0)) = true := by simpa using c249))
  clear c249
  have H' := Aside0.mk H
  clear H
  obtain ⟨Ao250, co250, eo250⟩ := Kd.R_slice HO_65.out
  subst eo250
  go_wp2_with (first | ((with_reducible refine gate_callee (f := 32) rfl ?_); refine goesL_ (some 709) rfl rfl Try.func32 (by kernel_rfl) rfl #[.slice Ao250 x65_s31.length co250, .int .i64 x82_1] rfl (by (try simp only [List.map_toArray, List.map_cons, List.map_nil]); first | done | rfl | (simp only [List.length_drop, List.length_take]; rfl)) ?_; (with_reducible refine (laws_qHas.calls k1 _ _ x65_s31 x82_1 t557 _ ?side1 ?side2 A246.out).mono ?_); (case side1 => repeat (first | exact (Kd.R_reads' HO_65.out).2.2 | (with_reducible refine Kd.C_alloc ?_ _) | (with_reducible refine Kd.C_drewN ?_ _) | (with_reducible refine Kd.C_drew ?_))); (case side2 => exact (Kd.R_reads' HO_65.out).2.1); rintro e w' ⟨rfl, ⟨nd, rfl⟩⟩; refine ⟨_, rfl, ?_⟩))
  go_roundg k1
  case measure => have := HK1.out; omega
  case rel => exact ⟨(wrap64 (x82_1 + 1)), (by first | rfl | (simp; done) | (simp [*]; done)), H', ⟨by have := HK1.out; omega⟩, ⟨by (with_reducible repeat (first | apply Kd.R_alloc | apply Kd.R_drewN | apply Kd.R_drew)); exact HO_65.out⟩, ⟨by repeat (first | (with_reducible first | exact HB.out | apply below_alloc | apply pw_below_drewN | apply below_drew1) | exact HB.out)⟩⟩

noncomputable def laws_FnJubileesCome.code30 (R : Code) : Code := withTail 1 (dropSeq 30 (Try.f3.body.getD .skip)) R
set_option maxHeartbeats 40000000 in
set_option maxRecDepth 100000 in
theorem laws_FnJubileesCome.st30 (A0 : Option Addr) (c0 : Nat) (l0 : List Int) (A1 : Option Addr) (c1 : Nat) (l1 : List Int) (w : World) (hr0 : Kd.C (Kd.int .u8) w A0 l0.length l0) (hc0 : l0.length ≤ c0) (hr1 : Kd.C (Kd.int .u8) w A1 l1.length l1) (hc1 : l1.length ≤ c1) (R : Code) (hR : ∀ (a' : Act) (wc : World), laws_FnJubileesCome.pre31 A0 c0 l0 A1 c1 l1 w a' wc → Code.wp Try.prog R (bodyPost Try.prog Try.f3 (fun e w' => e = .returned (.bool true) ∧ Below w.heap.size w w')) a' wc) (a' : Act) (wc : World) (hP : laws_FnJubileesCome.pre30 A0 c0 l0 A1 c1 l1 w a' wc) :
    Code.wp Try.prog (laws_FnJubileesCome.code30 R) (bodyPost Try.prog Try.f3 (fun e w' => e = .returned (.bool true) ∧ Below w.heap.size w w')) a' wc := by
  have HR0 := Aside0.mk hr0
  have HC0 := Aside0.mk hc0
  clear hr0 hc0
  have HR1 := Aside0.mk hr1
  have HC1 := Aside0.mk hc1
  clear hr1 hc1
  unfold laws_FnJubileesCome.pre30 at hP
  obtain ⟨kq, x55_s30, x56_s30, x57_s30, x58_s30, x61_s30, x62_s30, x63_s30, x64_s30, x65_s30, x66_s30, u55, u57, u65, ⟨hlen, hdef⟩, hq55, hq56, hq57, hq58, hq61, hq62, hq63, hq64, hq65, hq66, HA, HO_55, HO_57, HO_65, HB⟩ := hP
  obtain ⟨uf, rfl⟩ := laws_FnJubileesCome.frame a' hlen hdef
  clear hlen hdef
  have he55 : uf 55 = u55 := hq55
  clear hq55
  have he56 : uf 56 = .int .i64 x56_s30 := hq56
  clear hq56
  have he57 : uf 57 = u57 := hq57
  clear hq57
  have he58 : uf 58 = .bool x58_s30 := hq58
  clear hq58
  have he61 : uf 61 = .int .i64 x61_s30 := hq61
  clear hq61
  have he62 : uf 62 = .int .i64 x62_s30 := hq62
  clear hq62
  have he63 : uf 63 = .int .i64 x63_s30 := hq63
  clear hq63
  have he64 : uf 64 = .int .i64 x64_s30 := hq64
  clear hq64
  have he65 : uf 65 = u65 := hq65
  clear hq65
  have he66 : uf 66 = .bool x66_s30 := hq66
  clear hq66
  simp only [he55, he56, he57, he58, he61, he62, he63, he64, he65, he66]
  clear he55 he56 he57 he58 he61 he62 he63 he64 he65 he66
  dsimp only [laws_FnJubileesCome.code30, withTail, dropSeq, Try.f3, Option.getD]
  rcases kq with _ | kj_s30
  · exact absurd HA.out (by simp [laws_FnJubileesCome.j24])
  have H := HA.out
  clear HA
  simp only [laws_FnJubileesCome.j24] at H
  by_cases c231 : x58_s30 = true
  rotate_left
  · replace c231 := Bool.eq_false_iff.mpr c231
    subst c231
    have H1 : (laws_FnJubileesCome.j26 kj_s30 x61_s30 x62_s30 x63_s30 x64_s30 x65_s30 x66_s30) = some true := by rw [if_neg (show ¬ (false = true) by decide)] at H; first | done | exact H
    clear H
    have H := H1
    clear H1
    have H' := Aside0.mk H
    clear H
    go_wp2
    refine hR _ _ ?_
    unfold laws_FnJubileesCome.pre31
    exact ⟨_, (x61_s30), (x62_s30), (x63_s30), (x64_s30), (x65_s30), (x66_s30), (u65), ⟨rfl, rfl⟩, (by first | rfl | (show _ = _; simp [nthV]; done) | (simp [nthV, *]; done)), (by first | rfl | (show _ = _; simp [nthV]; done) | (simp [nthV, *]; done)), (by first | rfl | (show _ = _; simp [nthV]; done) | (simp [nthV, *]; done)), (by first | rfl | (show _ = _; simp [nthV]; done) | (simp [nthV, *]; done)), (by first | rfl | (show _ = _; simp [nthV]; done) | (simp [nthV, *]; done)), (by first | rfl | (show _ = _; simp [nthV]; done) | (simp [nthV, *]; done)), H', ⟨by (with_reducible repeat (first | apply Kd.R_alloc | apply Kd.R_drewN | apply Kd.R_drew)); exact Kd.R_mono HO_65.out (fun _ hk => trivial)⟩, ⟨by repeat (first | (with_reducible first | exact HB.out | apply below_alloc | apply pw_below_drewN | apply below_drew1) | exact HB.out)⟩⟩
  subst c231
  have H1 : ((laws_qRises.f kj_s30 x57_s30).bind fun t551 => (if t551 = true then (laws_FnJubileesCome.l5 kj_s30 x55_s30 x56_s30 x61_s30 x62_s30 x63_s30 x64_s30 x65_s30 x66_s30 x57_s30 (x57_s30.length : Int) 0) else (some false))) = some true := by rw [if_pos rfl] at H; first | done | exact H
  clear H
  have H := H1
  clear H1
  replace H := Option.bind_eq_some_iff.mp H
  obtain ⟨t551, A2320, H⟩ := H
  replace H : (if t551 = true then (laws_FnJubileesCome.l5 kj_s30 x55_s30 x56_s30 x61_s30 x62_s30 x63_s30 x64_s30 x65_s30 x66_s30 x57_s30 (x57_s30.length : Int) 0) else (some false)) = some true := H
  have A232 := Aside0.mk A2320
  clear A2320
  by_cases c233 : t551 = true
  rotate_left
  · replace c233 := Bool.eq_false_iff.mpr c233
    subst c233
    have H1 : (some false) = some true := by rw [if_neg (show ¬ (false = true) by decide)] at H; first | done | exact H
    clear H
    have H := H1
    clear H1
    exact absurd H (by simp)
  subst c233
  have H1 : (laws_FnJubileesCome.l5 kj_s30 x55_s30 x56_s30 x61_s30 x62_s30 x63_s30 x64_s30 x65_s30 x66_s30 x57_s30 (x57_s30.length : Int) 0) = some true := by rw [if_pos rfl] at H; first | done | exact H
  clear H
  have H := H1
  clear H1
  have H' := Aside0.mk H
  clear H
  obtain ⟨Ao234, co234, eo234⟩ := Kd.R_slice HO_57.out
  subst eo234
  go_wp2_with (first | ((with_reducible refine gate_callee (f := 18) rfl ?_); refine goesL_ (some 675) rfl rfl Try.func18 (by kernel_rfl) rfl #[.slice Ao234 x57_s30.length co234] rfl (by (try simp only [List.map_toArray, List.map_cons, List.map_nil]); first | done | rfl | (simp only [List.length_drop, List.length_take]; rfl)) ?_; (with_reducible refine (laws_qRises.calls kj_s30 _ _ x57_s30 true _ ?side1 ?side2 A232.out).mono ?_); (case side1 => repeat (first | exact (Kd.R_reads' HO_57.out).2.2 | (with_reducible refine Kd.C_alloc ?_ _) | (with_reducible refine Kd.C_drewN ?_ _) | (with_reducible refine Kd.C_drew ?_))); (case side2 => exact (Kd.R_reads' HO_57.out).2.1); rintro e w' ⟨rfl, ⟨nd, rfl⟩⟩; refine ⟨_, rfl, ?_⟩))
  go_loopg [679] kj_s30 (fun kq v679 w' => ∃ (x679_1 : Int), v679 = .int .i64 x679_1 ∧ Aside0 (laws_FnJubileesCome.l5 kq x55_s30 x56_s30 x61_s30 x62_s30 x63_s30 x64_s30 x65_s30 x66_s30 x57_s30 (x57_s30.length : Int) x679_1 = some true) ∧ Aside0 (kq ≤ kj_s30) ∧ Aside0 (Kd.R (Kd.int .i64) 3 w' w.heap.size (fun k_ => some k_ ≠ (u65 : Value).ownBlock ∧ some k_ ≠ ((.slice Ao234 x57_s30.length co234) : Value).ownBlock) u55 x55_s30) ∧ Aside0 (Kd.R (Kd.int .i64) 3 w' w.heap.size (fun k_ => some k_ ≠ (u55 : Value).ownBlock ∧ some k_ ≠ ((.slice Ao234 x57_s30.length co234) : Value).ownBlock) u65 x65_s30) ∧ Aside0 (Kd.R (Kd.int .i64) 3 w' w.heap.size (fun k_ => some k_ ≠ (u55 : Value).ownBlock ∧ some k_ ≠ (u65 : Value).ownBlock) (.slice Ao234 x57_s30.length co234) x57_s30) ∧ Aside0 (Below w.heap.size w w'))
  case atStart => exact ⟨(0), (by first | rfl | (simp; done) | (simp [*]; done)), H', ⟨Nat.le_refl _⟩, ⟨by (with_reducible repeat (first | apply Kd.R_alloc | apply Kd.R_drewN | apply Kd.R_drew)); exact Kd.R_mono HO_55.out (fun _ hk => ⟨hk.2, hk.1⟩)⟩, ⟨by (with_reducible repeat (first | apply Kd.R_alloc | apply Kd.R_drewN | apply Kd.R_drew)); exact HO_65.out⟩, ⟨by (with_reducible repeat (first | apply Kd.R_alloc | apply Kd.R_drewN | apply Kd.R_drew)); exact HO_57.out⟩, ⟨by repeat (first | (with_reducible first | exact HB.out | apply below_alloc | apply pw_below_drewN | apply below_drew1) | exact HB.out)⟩⟩
  clear H'
  try clear c231; try clear c233
  obtain ⟨x679_1, rfl, HA, HK1, HO_55, HO_65, HO_677, HB⟩ := hrel
  rcases gk with _ | k1
  · exact absurd HA.out (by simp [laws_FnJubileesCome.l5])
  have H := HA.out
  clear HA
  simp only [laws_FnJubileesCome.l5] at H
  by_cases c235 : x679_1 < (x57_s30.length : Int)
  rotate_left
  · rw [if_neg c235] at H
    have c235b0 : decide (x679_1 < (x57_s30.length : Int)) = false := decide_eq_false c235
    clear c235
    have H' := Aside0.mk H
    clear H
    go_wp2
    refine hR _ _ ?_
    unfold laws_FnJubileesCome.pre31
    exact ⟨_, (x61_s30), (x62_s30), (x63_s30), (x64_s30), (x65_s30), (x66_s30), (u65), ⟨rfl, rfl⟩, (by first | rfl | (show _ = _; simp [nthV]; done) | (simp [nthV, *]; done)), (by first | rfl | (show _ = _; simp [nthV]; done) | (simp [nthV, *]; done)), (by first | rfl | (show _ = _; simp [nthV]; done) | (simp [nthV, *]; done)), (by first | rfl | (show _ = _; simp [nthV]; done) | (simp [nthV, *]; done)), (by first | rfl | (show _ = _; simp [nthV]; done) | (simp [nthV, *]; done)), (by first | rfl | (show _ = _; simp [nthV]; done) | (simp [nthV, *]; done)), H', ⟨by (with_reducible repeat (first | apply Kd.R_alloc | apply Kd.R_drewN | apply Kd.R_drew)); exact Kd.R_mono HO_65.out (fun _ hk => trivial)⟩, ⟨by repeat (first | (with_reducible first | exact HB.out | apply below_alloc | apply pw_below_drewN | apply below_drew1) | exact HB.out)⟩⟩
  rw [if_pos c235] at H
  have c235b0 : decide (x679_1 < (x57_s30.length : Int)) = true := decide_eq_true c235
  clear c235
  by_cases c236 : 0 ≤ x679_1
  rotate_left
  · rw [if_neg c236] at H
    exact absurd H (by simp)
  rw [if_pos c236] at H
  have c236b0 : decide (0 ≤ x679_1) = true := decide_eq_true c236
  clear c236
  by_cases c237 : x679_1 < (x57_s30.length : Int)
  rotate_left
  · rw [if_neg c237] at H
    exact absurd H (by simp)
  rw [if_pos c237] at H
  have c237b0 : decide (x679_1 < (x57_s30.length : Int)) = true := decide_eq_true c237
  clear c237
  replace H := Option.bind_eq_some_iff.mp H
  obtain ⟨⟨t553, t554⟩, A2380, H⟩ := H
  replace H : (if t554 = true then (if (t553.length : Int) = (x55_s30.length : Int) then (laws_FnJubileesCome.l5 k1 x55_s30 x56_s30 x61_s30 x62_s30 x63_s30 x64_s30 x65_s30 x66_s30 x57_s30 (x57_s30.length : Int) (wrap64 (x679_1 + 1))) else (some false)) else (some false)) = some true := H
  have A238 := Aside0.mk A2380
  clear A2380
  by_cases c239 : t554 = true
  rotate_left
  · replace c239 := Bool.eq_false_iff.mpr c239
    subst c239
    have H1 : (some false) = some true := by rw [if_neg (show ¬ (false = true) by decide)] at H; first | done | exact H
    clear H
    have H := H1
    clear H1
    exact absurd H (by simp)
  subst c239
  have H1 : (if (t553.length : Int) = (x55_s30.length : Int) then (laws_FnJubileesCome.l5 k1 x55_s30 x56_s30 x61_s30 x62_s30 x63_s30 x64_s30 x65_s30 x66_s30 x57_s30 (x57_s30.length : Int) (wrap64 (x679_1 + 1))) else (some false)) = some true := by rw [if_pos rfl] at H; first | done | exact H
  clear H
  have H := H1
  clear H1
  by_cases c240 : (t553.length : Int) = (x55_s30.length : Int)
  rotate_left
  · rw [if_neg c240] at H
    have c240b0 : ((t553.length : Int) == (x55_s30.length : Int)) = false := beq_eq_false_iff_ne.mpr c240
    have c240b1 : ((t553.length : Int) != (x55_s30.length : Int)) = true := bne_iff_ne.mpr c240
    have c240b2 : (t553.length == x55_s30.length) = false := by first | simpa using c240 | (simp at c240 ⊢; omega)
    exact absurd H (by simp)
  rw [if_pos c240] at H
  have c240b0 : ((t553.length : Int) == (x55_s30.length : Int)) = true := beq_iff_eq.mpr c240
  have c240b1 : ((t553.length : Int) != (x55_s30.length : Int)) = false := bne_eq_false_iff_eq.mpr c240
  have c240b2 : (t553.length == x55_s30.length) = true := by first | simpa using c240 | (simp at c240 ⊢; omega)
  clear c240
  have H' := Aside0.mk H
  clear H
  have p552 : 0 ≤ (x679_1 : Int) := of_decide_eq_true (by first | (with_reducible assumption) | assumption)
  have q552 : x679_1 < (x57_s30.length : Int) := of_decide_eq_true (by first | (with_reducible assumption) | assumption)
  obtain ⟨ad552, e552, hx552_0⟩ := Kd.at_int (Kd.R_reads' HO_677.out).2.2 x679_1 p552 q552
  cases e552
  replace p552 := eq_true p552
  replace q552 := eq_true q552
  obtain ⟨Ao241, co241, eo241⟩ := Kd.R_slice HO_55.out
  subst eo241
  go_wp2_with (first | ((with_reducible refine gate_callee (f := 17) rfl ?_); refine goesL_ (some 687) rfl rfl Try.func17 (by kernel_rfl) rfl #[.slice Ao241 x55_s30.length co241, .int .i64 (rd x57_s30 x679_1), .int .i64 x56_s30] rfl (by (try simp only [List.map_toArray, List.map_cons, List.map_nil]); first | done | rfl | (simp only [List.length_drop, List.length_take]; rfl)) ?_; (with_reducible refine (impl_JubileesIn.calls k1 _ _ x55_s30 (rd x57_s30 x679_1) x56_s30 t553 true _ ?side1 ?side2 A238.out).mono ?_); (case side1 => repeat (first | exact (Kd.R_reads' HO_55.out).2.2 | (with_reducible refine Kd.C_alloc ?_ _) | (with_reducible refine Kd.C_drewN ?_ _) | (with_reducible refine Kd.C_drew ?_))); (case side2 => exact (Kd.R_reads' HO_55.out).2.1); rintro e w242 ⟨v555, rfl, ho0, hb⟩; refine ⟨_, rfl, ?_⟩; have n0_ := Aside0.mk (Kd.R_elder' (by (with_reducible repeat (first | apply Kd.R_alloc | apply Kd.R_drewN | apply Kd.R_drew)); exact HO_55.out) (Kd.R_base ho0) hb); have n1_ := Aside0.mk (Kd.R_elder' (by (with_reducible repeat (first | apply Kd.R_alloc | apply Kd.R_drewN | apply Kd.R_drew)); exact HO_65.out) (Kd.R_base ho0) hb); have n2_ := Aside0.mk (Kd.R_elder' (by (with_reducible repeat (first | apply Kd.R_alloc | apply Kd.R_drewN | apply Kd.R_drew)); exact HO_677.out) (Kd.R_base ho0) hb); have n3_ := Aside0.mk (Kd.R_lower (Kd.R_new' (Kd.R_new' (Kd.R_new' ho0 (Kd.R_lt (by (with_reducible repeat (first | apply Kd.R_alloc | apply Kd.R_drewN | apply Kd.R_drew)); exact HO_55.out))) (Kd.R_lt (by (with_reducible repeat (first | apply Kd.R_alloc | apply Kd.R_drewN | apply Kd.R_drew)); exact HO_65.out))) (Kd.R_lt (by (with_reducible repeat (first | apply Kd.R_alloc | apply Kd.R_drewN | apply Kd.R_drew)); exact HO_677.out))) (below_size (by repeat (first | (with_reducible first | exact HB.out | apply below_alloc | apply pw_below_drewN | apply below_drew1) | exact HB.out)))); have n4_ := Aside0.mk (below_step (by repeat (first | (with_reducible first | exact HB.out | apply below_alloc | apply pw_below_drewN | apply below_drew1) | exact HB.out)) hb); clear HO_55; clear HO_65; clear HO_677; clear HB; have HO_55 := n0_; have HO_65 := n1_; have HO_677 := n2_; have HO556 := n3_; have HB := n4_; clear n0_ n1_ n2_ n3_ n4_; (try clear hb); (try clear hb2); (try clear hk); (try clear hi); (try clear ho0); obtain ⟨Ao243, co243, eo243⟩ := Kd.R_slice HO556.out; subst eo243))
  go_roundg k1
  case measure => have := HK1.out; omega
  case rel => exact ⟨(wrap64 (x679_1 + 1)), (by first | rfl | (simp; done) | (simp [*]; done)), H', ⟨by have := HK1.out; omega⟩, ⟨by (with_reducible repeat (first | apply Kd.R_alloc | apply Kd.R_drewN | apply Kd.R_drew)); exact Kd.R_mono HO_55.out (fun _ hk => ⟨hk.1.1, hk.1.2⟩)⟩, ⟨by (with_reducible repeat (first | apply Kd.R_alloc | apply Kd.R_drewN | apply Kd.R_drew)); exact Kd.R_mono HO_65.out (fun _ hk => ⟨hk.1.1, hk.1.2⟩)⟩, ⟨by (with_reducible repeat (first | apply Kd.R_alloc | apply Kd.R_drewN | apply Kd.R_drew)); exact Kd.R_mono HO_677.out (fun _ hk => ⟨hk.1.1, hk.1.2⟩)⟩, ⟨by repeat (first | (with_reducible first | exact HB.out | apply below_alloc | apply pw_below_drewN | apply below_drew1) | exact HB.out)⟩⟩

noncomputable def laws_FnJubileesCome.code29 (R : Code) : Code := withTail 1 (dropSeq 29 (Try.f3.body.getD .skip)) R
set_option maxHeartbeats 40000000 in
set_option maxRecDepth 100000 in
theorem laws_FnJubileesCome.st29 (A0 : Option Addr) (c0 : Nat) (l0 : List Int) (A1 : Option Addr) (c1 : Nat) (l1 : List Int) (w : World) (hr0 : Kd.C (Kd.int .u8) w A0 l0.length l0) (hc0 : l0.length ≤ c0) (hr1 : Kd.C (Kd.int .u8) w A1 l1.length l1) (hc1 : l1.length ≤ c1) (R : Code) (hR : ∀ (a' : Act) (wc : World), laws_FnJubileesCome.pre30 A0 c0 l0 A1 c1 l1 w a' wc → Code.wp Try.prog R (bodyPost Try.prog Try.f3 (fun e w' => e = .returned (.bool true) ∧ Below w.heap.size w w')) a' wc) (a' : Act) (wc : World) (hP : laws_FnJubileesCome.pre29 A0 c0 l0 A1 c1 l1 w a' wc) :
    Code.wp Try.prog (laws_FnJubileesCome.code29 R) (bodyPost Try.prog Try.f3 (fun e w' => e = .returned (.bool true) ∧ Below w.heap.size w w')) a' wc := by
  have HR0 := Aside0.mk hr0
  have HC0 := Aside0.mk hc0
  clear hr0 hc0
  have HR1 := Aside0.mk hr1
  have HC1 := Aside0.mk hc1
  clear hr1 hc1
  unfold laws_FnJubileesCome.pre29 at hP
  obtain ⟨kq, x38_s29, x39_s29, x45_s29, x49_s29, x50_s29, x51_s29, x55_s29, x56_s29, x57_s29, x58_s29, x61_s29, x62_s29, x63_s29, x64_s29, x65_s29, x66_s29, u38, u45, u55, u57, u65, ⟨hlen, hdef⟩, hq38, hq39, hq45, hq49, hq50, hq51, hq55, hq56, hq57, hq58, hq61, hq62, hq63, hq64, hq65, hq66, HA, HO_38, HO_45, HO_55, HO_57, HO_65, HB⟩ := hP
  obtain ⟨uf, rfl⟩ := laws_FnJubileesCome.frame a' hlen hdef
  clear hlen hdef
  have he38 : uf 38 = u38 := hq38
  clear hq38
  have he39 : uf 39 = .int .i64 x39_s29 := hq39
  clear hq39
  have he45 : uf 45 = u45 := hq45
  clear hq45
  have he49 : uf 49 = .int .i64 x49_s29 := hq49
  clear hq49
  have he50 : uf 50 = .int .i64 x50_s29 := hq50
  clear hq50
  have he51 : uf 51 = .bool x51_s29 := hq51
  clear hq51
  have he55 : uf 55 = u55 := hq55
  clear hq55
  have he56 : uf 56 = .int .i64 x56_s29 := hq56
  clear hq56
  have he57 : uf 57 = u57 := hq57
  clear hq57
  have he58 : uf 58 = .bool x58_s29 := hq58
  clear hq58
  have he61 : uf 61 = .int .i64 x61_s29 := hq61
  clear hq61
  have he62 : uf 62 = .int .i64 x62_s29 := hq62
  clear hq62
  have he63 : uf 63 = .int .i64 x63_s29 := hq63
  clear hq63
  have he64 : uf 64 = .int .i64 x64_s29 := hq64
  clear hq64
  have he65 : uf 65 = u65 := hq65
  clear hq65
  have he66 : uf 66 = .bool x66_s29 := hq66
  clear hq66
  simp only [he38, he39, he45, he49, he50, he51, he55, he56, he57, he58, he61, he62, he63, he64, he65, he66]
  clear he38 he39 he45 he49 he50 he51 he55 he56 he57 he58 he61 he62 he63 he64 he65 he66
  dsimp only [laws_FnJubileesCome.code29, withTail, dropSeq, Try.f3, Option.getD]
  rcases kq with _ | kj_s29
  · exact absurd HA.out (by simp [laws_FnJubileesCome.j21])
  have H := HA.out
  clear HA
  simp only [laws_FnJubileesCome.j21] at H
  by_cases c211 : x51_s29 = true
  rotate_left
  · replace c211 := Bool.eq_false_iff.mpr c211
    subst c211
    have H1 : (laws_FnJubileesCome.j24 kj_s29 x55_s29 x56_s29 x57_s29 x58_s29 x61_s29 x62_s29 x63_s29 x64_s29 x65_s29 x66_s29) = some true := by rw [if_neg (show ¬ (false = true) by decide)] at H; first | done | exact H
    clear H
    have H := H1
    clear H1
    have H' := Aside0.mk H
    clear H
    go_wp2
    refine hR _ _ ?_
    unfold laws_FnJubileesCome.pre30
    exact ⟨_, (x55_s29), (x56_s29), (x57_s29), (x58_s29), (x61_s29), (x62_s29), (x63_s29), (x64_s29), (x65_s29), (x66_s29), (u55), (u57), (u65), ⟨rfl, rfl⟩, (by first | rfl | (show _ = _; simp [nthV]; done) | (simp [nthV, *]; done)), (by first | rfl | (show _ = _; simp [nthV]; done) | (simp [nthV, *]; done)), (by first | rfl | (show _ = _; simp [nthV]; done) | (simp [nthV, *]; done)), (by first | rfl | (show _ = _; simp [nthV]; done) | (simp [nthV, *]; done)), (by first | rfl | (show _ = _; simp [nthV]; done) | (simp [nthV, *]; done)), (by first | rfl | (show _ = _; simp [nthV]; done) | (simp [nthV, *]; done)), (by first | rfl | (show _ = _; simp [nthV]; done) | (simp [nthV, *]; done)), (by first | rfl | (show _ = _; simp [nthV]; done) | (simp [nthV, *]; done)), (by first | rfl | (show _ = _; simp [nthV]; done) | (simp [nthV, *]; done)), (by first | rfl | (show _ = _; simp [nthV]; done) | (simp [nthV, *]; done)), H', ⟨by (with_reducible repeat (first | apply Kd.R_alloc | apply Kd.R_drewN | apply Kd.R_drew)); exact Kd.R_mono HO_55.out (fun _ hk => ⟨hk.2.2.1, hk.2.2.2⟩)⟩, ⟨by (with_reducible repeat (first | apply Kd.R_alloc | apply Kd.R_drewN | apply Kd.R_drew)); exact Kd.R_mono HO_57.out (fun _ hk => ⟨hk.2.2.1, hk.2.2.2⟩)⟩, ⟨by (with_reducible repeat (first | apply Kd.R_alloc | apply Kd.R_drewN | apply Kd.R_drew)); exact Kd.R_mono HO_65.out (fun _ hk => ⟨hk.2.2.1, hk.2.2.2⟩)⟩, ⟨by repeat (first | (with_reducible first | exact HB.out | apply below_alloc | apply pw_below_drewN | apply below_drew1) | exact HB.out)⟩⟩
  subst c211
  have H1 : ((laws_qHas.f kj_s29 x45_s29 x49_s29).bind fun t547 => (if t547 = true then (if 0 ≤ x49_s29 then (if x49_s29 < (x38_s29.length : Int) then (laws_FnJubileesCome.j22 kj_s29 x38_s29 x39_s29 x45_s29 x49_s29 x50_s29 x55_s29 x56_s29 x57_s29 x58_s29 x61_s29 x62_s29 x63_s29 x64_s29 x65_s29 x66_s29 ((wrap64 (x39_s29 - (rd x38_s29 x49_s29))) != x50_s29)) else (none)) else (none)) else (laws_FnJubileesCome.j22 kj_s29 x38_s29 x39_s29 x45_s29 x49_s29 x50_s29 x55_s29 x56_s29 x57_s29 x58_s29 x61_s29 x62_s29 x63_s29 x64_s29 x65_s29 x66_s29 true))) = some true := by rw [if_pos rfl] at H; first | done | exact H
  clear H
  have H := H1
  clear H1
  have HC212 := Aside0.mk H
  clear H
  go_upto_region 73 with (fail)
  go_cut [646, 632] from 90000 to 90001 (fun v646 _ wc => ∃ (kq : Nat) (x646_211 : Bool), v646 = .bool x646_211 ∧ Aside0 (laws_FnJubileesCome.j22 kq x38_s29 x39_s29 x45_s29 x49_s29 x50_s29 x55_s29 x56_s29 x57_s29 x58_s29 x61_s29 x62_s29 x63_s29 x64_s29 x65_s29 x66_s29 x646_211 = some true) ∧ Aside0 (kq ≤ kj_s29) ∧ Aside0 (Kd.R (Kd.int .i64) 3 wc w.heap.size (fun k_ => some k_ ≠ (u45 : Value).ownBlock ∧ some k_ ≠ (u55 : Value).ownBlock ∧ some k_ ≠ (u57 : Value).ownBlock ∧ some k_ ≠ (u65 : Value).ownBlock) u38 x38_s29) ∧ Aside0 (Kd.R (Kd.int .i64) 3 wc w.heap.size (fun k_ => some k_ ≠ (u38 : Value).ownBlock ∧ some k_ ≠ (u55 : Value).ownBlock ∧ some k_ ≠ (u57 : Value).ownBlock ∧ some k_ ≠ (u65 : Value).ownBlock) u45 x45_s29) ∧ Aside0 (Kd.R (Kd.int .i64) 3 wc w.heap.size (fun k_ => some k_ ≠ (u38 : Value).ownBlock ∧ some k_ ≠ (u45 : Value).ownBlock ∧ some k_ ≠ (u57 : Value).ownBlock ∧ some k_ ≠ (u65 : Value).ownBlock) u55 x55_s29) ∧ Aside0 (Kd.R (Kd.int .i64) 3 wc w.heap.size (fun k_ => some k_ ≠ (u38 : Value).ownBlock ∧ some k_ ≠ (u45 : Value).ownBlock ∧ some k_ ≠ (u55 : Value).ownBlock ∧ some k_ ≠ (u65 : Value).ownBlock) u57 x57_s29) ∧ Aside0 (Kd.R (Kd.int .i64) 3 wc w.heap.size (fun k_ => some k_ ≠ (u38 : Value).ownBlock ∧ some k_ ≠ (u45 : Value).ownBlock ∧ some k_ ≠ (u55 : Value).ownBlock ∧ some k_ ≠ (u57 : Value).ownBlock) u65 x65_s29) ∧ Aside0 (Below w.heap.size w wc))
  case first =>
    have H := HC212.out
    clear HC212
    replace H := Option.bind_eq_some_iff.mp H
    obtain ⟨t547, A2130, H⟩ := H
    replace H : (if t547 = true then (if 0 ≤ x49_s29 then (if x49_s29 < (x38_s29.length : Int) then (laws_FnJubileesCome.j22 kj_s29 x38_s29 x39_s29 x45_s29 x49_s29 x50_s29 x55_s29 x56_s29 x57_s29 x58_s29 x61_s29 x62_s29 x63_s29 x64_s29 x65_s29 x66_s29 ((wrap64 (x39_s29 - (rd x38_s29 x49_s29))) != x50_s29)) else (none)) else (none)) else (laws_FnJubileesCome.j22 kj_s29 x38_s29 x39_s29 x45_s29 x49_s29 x50_s29 x55_s29 x56_s29 x57_s29 x58_s29 x61_s29 x62_s29 x63_s29 x64_s29 x65_s29 x66_s29 true)) = some true := H
    have A213 := Aside0.mk A2130
    clear A2130
    by_cases c214 : t547 = true
    rotate_left
    · replace c214 := Bool.eq_false_iff.mpr c214
      subst c214
      have H1 : (laws_FnJubileesCome.j22 kj_s29 x38_s29 x39_s29 x45_s29 x49_s29 x50_s29 x55_s29 x56_s29 x57_s29 x58_s29 x61_s29 x62_s29 x63_s29 x64_s29 x65_s29 x66_s29 true) = some true := by rw [if_neg (show ¬ (false = true) by decide)] at H; first | done | exact H
      clear H
      have H := H1
      clear H1
      exact (laws_FnJubileesCome.dead3 _ _ _ _ _ _ _ _ _ _ _ _ _ _ _ _ H).elim
    subst c214
    have H1 : (if 0 ≤ x49_s29 then (if x49_s29 < (x38_s29.length : Int) then (laws_FnJubileesCome.j22 kj_s29 x38_s29 x39_s29 x45_s29 x49_s29 x50_s29 x55_s29 x56_s29 x57_s29 x58_s29 x61_s29 x62_s29 x63_s29 x64_s29 x65_s29 x66_s29 ((wrap64 (x39_s29 - (rd x38_s29 x49_s29))) != x50_s29)) else (none)) else (none)) = some true := by rw [if_pos rfl] at H; first | done | exact H
    clear H
    have H := H1
    clear H1
    by_cases c215 : 0 ≤ x49_s29
    rotate_left
    · rw [if_neg c215] at H
      exact absurd H (by simp)
    rw [if_pos c215] at H
    have c215b0 : decide (0 ≤ x49_s29) = true := decide_eq_true c215
    clear c215
    (first | rw [c215b0] | (simp only [i64_w, i32_w]; rw [c215b0]) | skip)
    by_cases c216 : x49_s29 < (x38_s29.length : Int)
    rotate_left
    · rw [if_neg c216] at H
      exact absurd H (by simp)
    rw [if_pos c216] at H
    have c216b0 : decide (x49_s29 < (x38_s29.length : Int)) = true := decide_eq_true c216
    clear c216
    have H' := Aside0.mk H
    clear H
    obtain ⟨Ao217, co217, eo217⟩ := Kd.R_slice HO_45.out
    subst eo217
    go_wp2_with (first | ((with_reducible refine gate_callee (f := 32) rfl ?_); refine goesL_ (some 635) rfl rfl Try.func32 (by kernel_rfl) rfl #[.slice Ao217 x45_s29.length co217, .int .i64 x49_s29] rfl (by (try simp only [List.map_toArray, List.map_cons, List.map_nil]); first | done | rfl | (simp only [List.length_drop, List.length_take]; rfl)) ?_; (with_reducible refine (laws_qHas.calls kj_s29 _ _ x45_s29 x49_s29 true _ ?side1 ?side2 A213.out).mono ?_); (case side1 => repeat (first | exact (Kd.R_reads' HO_45.out).2.2 | (with_reducible refine Kd.C_alloc ?_ _) | (with_reducible refine Kd.C_drewN ?_ _) | (with_reducible refine Kd.C_drew ?_))); (case side2 => exact (Kd.R_reads' HO_45.out).2.1); rintro e w' ⟨rfl, ⟨nd, rfl⟩⟩; refine ⟨_, rfl, ?_⟩; obtain ⟨Ao218, co218, eo218⟩ := Kd.R_slice HO_38.out; subst eo218; have p548 : 0 ≤ (x49_s29 : Int) := of_decide_eq_true (by first | (with_reducible assumption) | assumption); have q548 : x49_s29 < (x38_s29.length : Int) := of_decide_eq_true (by first | (with_reducible assumption) | assumption); obtain ⟨ad548, e548, hx548_0⟩ := Kd.at_int (Kd.R_reads' HO_38.out).2.2 x49_s29 p548 q548; cases e548; replace p548 := eq_true p548; replace q548 := eq_true q548))
    go_meet
    case rel => exact ⟨_, (((wrap64 (x39_s29 - (rd x38_s29 x49_s29))) != x50_s29)), (by first | rfl | (simp; done) | (simp [*]; done)), H', ⟨by first | omega | exact Nat.le_refl _⟩, ⟨by (with_reducible repeat (first | apply Kd.R_alloc | apply Kd.R_drewN | apply Kd.R_drew)); exact HO_38.out⟩, ⟨by (with_reducible repeat (first | apply Kd.R_alloc | apply Kd.R_drewN | apply Kd.R_drew)); exact HO_45.out⟩, ⟨by (with_reducible repeat (first | apply Kd.R_alloc | apply Kd.R_drewN | apply Kd.R_drew)); exact HO_55.out⟩, ⟨by (with_reducible repeat (first | apply Kd.R_alloc | apply Kd.R_drewN | apply Kd.R_drew)); exact HO_57.out⟩, ⟨by (with_reducible repeat (first | apply Kd.R_alloc | apply Kd.R_drewN | apply Kd.R_drew)); exact HO_65.out⟩, ⟨by repeat (first | (with_reducible first | exact HB.out | apply below_alloc | apply pw_below_drewN | apply below_drew1) | exact HB.out)⟩⟩
  clear HC212
  try clear c211
  obtain ⟨kq, x646_211, rfl, HA, HJ211, HO_38, HO_45, HO_55, HO_57, HO_65, HB⟩ := hcut
  rcases kq with _ | kj211
  · exact absurd HA.out (by simp [laws_FnJubileesCome.j22])
  have H := HA.out
  clear HA
  simp only [laws_FnJubileesCome.j22] at H
  by_cases c219 : x646_211 = true
  · subst c219
    have H1 : (some false) = some true := by rw [if_pos rfl] at H; first | done | exact H
    clear H
    have H := H1
    clear H1
    exact absurd H (by simp)
  replace c219 := Bool.eq_false_iff.mpr c219
  subst c219
  have H1 : (laws_FnJubileesCome.l4 kj211 x38_s29 x39_s29 x49_s29 x50_s29 x55_s29 x56_s29 x57_s29 x58_s29 x61_s29 x62_s29 x63_s29 x64_s29 x65_s29 x66_s29 x45_s29 (x45_s29.length : Int) 0) = some true := by rw [if_neg (show ¬ (false = true) by decide)] at H; first | done | exact H
  clear H
  have H := H1
  clear H1
  have H' := Aside0.mk H
  clear H
  obtain ⟨Ao220, co220, eo220⟩ := Kd.R_slice HO_45.out
  subst eo220
  go_wp2
  go_loopg [649] kj211 (fun kq v649 w' => ∃ (x649_2 : Int), v649 = .int .i64 x649_2 ∧ Aside0 (laws_FnJubileesCome.l4 kq x38_s29 x39_s29 x49_s29 x50_s29 x55_s29 x56_s29 x57_s29 x58_s29 x61_s29 x62_s29 x63_s29 x64_s29 x65_s29 x66_s29 x45_s29 (x45_s29.length : Int) x649_2 = some true) ∧ Aside0 (kq ≤ kj211) ∧ Aside0 (Kd.R (Kd.int .i64) 3 w' w.heap.size (fun k_ => some k_ ≠ (u55 : Value).ownBlock ∧ some k_ ≠ (u57 : Value).ownBlock ∧ some k_ ≠ (u65 : Value).ownBlock ∧ some k_ ≠ ((.slice Ao220 x45_s29.length co220) : Value).ownBlock) u38 x38_s29) ∧ Aside0 (Kd.R (Kd.int .i64) 3 w' w.heap.size (fun k_ => some k_ ≠ (u38 : Value).ownBlock ∧ some k_ ≠ (u57 : Value).ownBlock ∧ some k_ ≠ (u65 : Value).ownBlock ∧ some k_ ≠ ((.slice Ao220 x45_s29.length co220) : Value).ownBlock) u55 x55_s29) ∧ Aside0 (Kd.R (Kd.int .i64) 3 w' w.heap.size (fun k_ => some k_ ≠ (u38 : Value).ownBlock ∧ some k_ ≠ (u55 : Value).ownBlock ∧ some k_ ≠ (u65 : Value).ownBlock ∧ some k_ ≠ ((.slice Ao220 x45_s29.length co220) : Value).ownBlock) u57 x57_s29) ∧ Aside0 (Kd.R (Kd.int .i64) 3 w' w.heap.size (fun k_ => some k_ ≠ (u38 : Value).ownBlock ∧ some k_ ≠ (u55 : Value).ownBlock ∧ some k_ ≠ (u57 : Value).ownBlock ∧ some k_ ≠ ((.slice Ao220 x45_s29.length co220) : Value).ownBlock) u65 x65_s29) ∧ Aside0 (Kd.R (Kd.int .i64) 3 w' w.heap.size (fun k_ => some k_ ≠ (u38 : Value).ownBlock ∧ some k_ ≠ (u55 : Value).ownBlock ∧ some k_ ≠ (u57 : Value).ownBlock ∧ some k_ ≠ (u65 : Value).ownBlock) (.slice Ao220 x45_s29.length co220) x45_s29) ∧ Aside0 (Below w.heap.size w w'))
  case atStart => exact ⟨(0), (by first | rfl | (simp; done) | (simp [*]; done)), H', ⟨Nat.le_refl _⟩, ⟨by (with_reducible repeat (first | apply Kd.R_alloc | apply Kd.R_drewN | apply Kd.R_drew)); exact Kd.R_mono HO_38.out (fun _ hk => ⟨hk.2.1, ⟨hk.2.2.1, ⟨hk.2.2.2, hk.1⟩⟩⟩)⟩, ⟨by (with_reducible repeat (first | apply Kd.R_alloc | apply Kd.R_drewN | apply Kd.R_drew)); exact Kd.R_mono HO_55.out (fun _ hk => ⟨hk.1, ⟨hk.2.2.1, ⟨hk.2.2.2, hk.2.1⟩⟩⟩)⟩, ⟨by (with_reducible repeat (first | apply Kd.R_alloc | apply Kd.R_drewN | apply Kd.R_drew)); exact Kd.R_mono HO_57.out (fun _ hk => ⟨hk.1, ⟨hk.2.2.1, ⟨hk.2.2.2, hk.2.1⟩⟩⟩)⟩, ⟨by (with_reducible repeat (first | apply Kd.R_alloc | apply Kd.R_drewN | apply Kd.R_drew)); exact Kd.R_mono HO_65.out (fun _ hk => ⟨hk.1, ⟨hk.2.2.1, ⟨hk.2.2.2, hk.2.1⟩⟩⟩)⟩, ⟨by (with_reducible repeat (first | apply Kd.R_alloc | apply Kd.R_drewN | apply Kd.R_drew)); exact HO_45.out⟩, ⟨by repeat (first | (with_reducible first | exact HB.out | apply below_alloc | apply pw_below_drewN | apply below_drew1) | exact HB.out)⟩⟩
  clear H'
  try clear c219
  obtain ⟨x649_2, rfl, HA, HK2, HO_38, HO_55, HO_57, HO_65, HO_647, HB⟩ := hrel
  rcases gk with _ | k2
  · exact absurd HA.out (by simp [laws_FnJubileesCome.l4])
  have H := HA.out
  clear HA
  simp only [laws_FnJubileesCome.l4] at H
  by_cases c221 : x649_2 < (x45_s29.length : Int)
  rotate_left
  · rw [if_neg c221] at H
    have c221b0 : decide (x649_2 < (x45_s29.length : Int)) = false := decide_eq_false c221
    clear c221
    have H' := Aside0.mk H
    clear H
    go_wp2
    refine hR _ _ ?_
    unfold laws_FnJubileesCome.pre30
    exact ⟨_, (x55_s29), (x56_s29), (x57_s29), (x58_s29), (x61_s29), (x62_s29), (x63_s29), (x64_s29), (x65_s29), (x66_s29), (u55), (u57), (u65), ⟨rfl, rfl⟩, (by first | rfl | (show _ = _; simp [nthV]; done) | (simp [nthV, *]; done)), (by first | rfl | (show _ = _; simp [nthV]; done) | (simp [nthV, *]; done)), (by first | rfl | (show _ = _; simp [nthV]; done) | (simp [nthV, *]; done)), (by first | rfl | (show _ = _; simp [nthV]; done) | (simp [nthV, *]; done)), (by first | rfl | (show _ = _; simp [nthV]; done) | (simp [nthV, *]; done)), (by first | rfl | (show _ = _; simp [nthV]; done) | (simp [nthV, *]; done)), (by first | rfl | (show _ = _; simp [nthV]; done) | (simp [nthV, *]; done)), (by first | rfl | (show _ = _; simp [nthV]; done) | (simp [nthV, *]; done)), (by first | rfl | (show _ = _; simp [nthV]; done) | (simp [nthV, *]; done)), (by first | rfl | (show _ = _; simp [nthV]; done) | (simp [nthV, *]; done)), H', ⟨by (with_reducible repeat (first | apply Kd.R_alloc | apply Kd.R_drewN | apply Kd.R_drew)); exact Kd.R_mono HO_55.out (fun _ hk => ⟨hk.2.1, hk.2.2.1⟩)⟩, ⟨by (with_reducible repeat (first | apply Kd.R_alloc | apply Kd.R_drewN | apply Kd.R_drew)); exact Kd.R_mono HO_57.out (fun _ hk => ⟨hk.2.1, hk.2.2.1⟩)⟩, ⟨by (with_reducible repeat (first | apply Kd.R_alloc | apply Kd.R_drewN | apply Kd.R_drew)); exact Kd.R_mono HO_65.out (fun _ hk => ⟨hk.2.1, hk.2.2.1⟩)⟩, ⟨by repeat (first | (with_reducible first | exact HB.out | apply below_alloc | apply pw_below_drewN | apply below_drew1) | exact HB.out)⟩⟩
  rw [if_pos c221] at H
  have c221b0 : decide (x649_2 < (x45_s29.length : Int)) = true := decide_eq_true c221
  clear c221
  by_cases c222 : 0 ≤ x649_2
  rotate_left
  · rw [if_neg c222] at H
    exact absurd H (by simp)
  rw [if_pos c222] at H
  have c222b0 : decide (0 ≤ x649_2) = true := decide_eq_true c222
  clear c222
  by_cases c223 : x649_2 < (x45_s29.length : Int)
  rotate_left
  · rw [if_neg c223] at H
    exact absurd H (by simp)
  rw [if_pos c223] at H
  have c223b0 : decide (x649_2 < (x45_s29.length : Int)) = true := decide_eq_true c223
  clear c223
  by_cases c224 : 0 ≤ (rd x45_s29 x649_2)
  rotate_left
  · rw [if_neg c224] at H
    exact absurd H (by simp)
  rw [if_pos c224] at H
  have c224b0 : decide (0 ≤ (rd x45_s29 x649_2)) = true := decide_eq_true c224
  clear c224
  by_cases c225 : (rd x45_s29 x649_2) < (x38_s29.length : Int)
  rotate_left
  · rw [if_neg c225] at H
    exact absurd H (by simp)
  rw [if_pos c225] at H
  have c225b0 : decide ((rd x45_s29 x649_2) < (x38_s29.length : Int)) = true := decide_eq_true c225
  clear c225
  by_cases c226 : (wrap64 (x39_s29 - (rd x38_s29 (rd x45_s29 x649_2)))) > x50_s29
  · rw [if_pos c226] at H
    have c226b0 : decide (x50_s29 < (wrap64 (x39_s29 - (rd x38_s29 (rd x45_s29 x649_2))))) = true := decide_eq_true c226
    clear c226
    exact absurd H (by simp)
  rw [if_neg c226] at H
  have c226b0 : decide (x50_s29 < (wrap64 (x39_s29 - (rd x38_s29 (rd x45_s29 x649_2))))) = false := decide_eq_false c226
  clear c226
  by_cases c227 : (wrap64 (x39_s29 - (rd x38_s29 (rd x45_s29 x649_2)))) = x50_s29
  rotate_left
  · rw [if_neg c227] at H
    have c227b0 : ((wrap64 (x39_s29 - (rd x38_s29 (rd x45_s29 x649_2)))) == x50_s29) = false := beq_eq_false_iff_ne.mpr c227
    have c227b1 : ((wrap64 (x39_s29 - (rd x38_s29 (rd x45_s29 x649_2)))) != x50_s29) = true := bne_iff_ne.mpr c227
    have H' := Aside0.mk H
    clear H
    have p549 : 0 ≤ (x649_2 : Int) := of_decide_eq_true (by first | (with_reducible assumption) | assumption)
    have q549 : x649_2 < (x45_s29.length : Int) := of_decide_eq_true (by first | (with_reducible assumption) | assumption)
    obtain ⟨ad549, e549, hx549_0⟩ := Kd.at_int (Kd.R_reads' HO_647.out).2.2 x649_2 p549 q549
    cases e549
    replace p549 := eq_true p549
    replace q549 := eq_true q549
    obtain ⟨Ao230, co230, eo230⟩ := Kd.R_slice HO_38.out
    subst eo230
    have p550 : 0 ≤ ((rd x45_s29 x649_2) : Int) := of_decide_eq_true (by first | (with_reducible assumption) | assumption)
    have q550 : (rd x45_s29 x649_2) < (x38_s29.length : Int) := of_decide_eq_true (by first | (with_reducible assumption) | assumption)
    obtain ⟨ad550, e550, hx550_0⟩ := Kd.at_int (Kd.R_reads' HO_38.out).2.2 (rd x45_s29 x649_2) p550 q550
    cases e550
    replace p550 := eq_true p550
    replace q550 := eq_true q550
    go_wp2
    go_roundg k2
    case measure => have := HJ211.out; have := HK2.out; omega
    case rel => exact ⟨(wrap64 (x649_2 + 1)), (by first | rfl | (simp; done) | (simp [*]; done)), H', ⟨by have := HJ211.out; have := HK2.out; omega⟩, ⟨by (with_reducible repeat (first | apply Kd.R_alloc | apply Kd.R_drewN | apply Kd.R_drew)); exact HO_38.out⟩, ⟨by (with_reducible repeat (first | apply Kd.R_alloc | apply Kd.R_drewN | apply Kd.R_drew)); exact HO_55.out⟩, ⟨by (with_reducible repeat (first | apply Kd.R_alloc | apply Kd.R_drewN | apply Kd.R_drew)); exact HO_57.out⟩, ⟨by (with_reducible repeat (first | apply Kd.R_alloc | apply Kd.R_drewN | apply Kd.R_drew)); exact HO_65.out⟩, ⟨by (with_reducible repeat (first | apply Kd.R_alloc | apply Kd.R_drewN | apply Kd.R_drew)); exact HO_647.out⟩, ⟨by repeat (first | (with_reducible first | exact HB.out | apply below_alloc | apply pw_below_drewN | apply below_drew1) | exact HB.out)⟩⟩
  rw [if_pos c227] at H
  have c227b0 : ((wrap64 (x39_s29 - (rd x38_s29 (rd x45_s29 x649_2)))) == x50_s29) = true := beq_iff_eq.mpr c227
  have c227b1 : ((wrap64 (x39_s29 - (rd x38_s29 (rd x45_s29 x649_2)))) != x50_s29) = false := bne_eq_false_iff_eq.mpr c227
  clear c227
  by_cases c228 : (rd x45_s29 x649_2) < x49_s29
  · rw [if_pos c228] at H
    have c228b0 : decide ((rd x45_s29 x649_2) < x49_s29) = true := decide_eq_true c228
    clear c228
    exact absurd H (by simp)
  rw [if_neg c228] at H
  have c228b0 : decide ((rd x45_s29 x649_2) < x49_s29) = false := decide_eq_false c228
  clear c228
  have H' := Aside0.mk H
  clear H
  have p549 : 0 ≤ (x649_2 : Int) := of_decide_eq_true (by first | (with_reducible assumption) | assumption)
  have q549 : x649_2 < (x45_s29.length : Int) := of_decide_eq_true (by first | (with_reducible assumption) | assumption)
  obtain ⟨ad549, e549, hx549_0⟩ := Kd.at_int (Kd.R_reads' HO_647.out).2.2 x649_2 p549 q549
  cases e549
  replace p549 := eq_true p549
  replace q549 := eq_true q549
  obtain ⟨Ao229, co229, eo229⟩ := Kd.R_slice HO_38.out
  subst eo229
  have p550 : 0 ≤ ((rd x45_s29 x649_2) : Int) := of_decide_eq_true (by first | (with_reducible assumption) | assumption)
  have q550 : (rd x45_s29 x649_2) < (x38_s29.length : Int) := of_decide_eq_true (by first | (with_reducible assumption) | assumption)
  obtain ⟨ad550, e550, hx550_0⟩ := Kd.at_int (Kd.R_reads' HO_38.out).2.2 (rd x45_s29 x649_2) p550 q550
  cases e550
  replace p550 := eq_true p550
  replace q550 := eq_true q550
  go_wp2
  go_roundg k2
  case measure => have := HJ211.out; have := HK2.out; omega
  case rel => exact ⟨(wrap64 (x649_2 + 1)), (by first | rfl | (simp; done) | (simp [*]; done)), H', ⟨by have := HJ211.out; have := HK2.out; omega⟩, ⟨by (with_reducible repeat (first | apply Kd.R_alloc | apply Kd.R_drewN | apply Kd.R_drew)); exact HO_38.out⟩, ⟨by (with_reducible repeat (first | apply Kd.R_alloc | apply Kd.R_drewN | apply Kd.R_drew)); exact HO_55.out⟩, ⟨by (with_reducible repeat (first | apply Kd.R_alloc | apply Kd.R_drewN | apply Kd.R_drew)); exact HO_57.out⟩, ⟨by (with_reducible repeat (first | apply Kd.R_alloc | apply Kd.R_drewN | apply Kd.R_drew)); exact HO_65.out⟩, ⟨by (with_reducible repeat (first | apply Kd.R_alloc | apply Kd.R_drewN | apply Kd.R_drew)); exact HO_647.out⟩, ⟨by repeat (first | (with_reducible first | exact HB.out | apply below_alloc | apply pw_below_drewN | apply below_drew1) | exact HB.out)⟩⟩

end Go.Proofs.Ytiacjmaofdimgaa.PFnJubileesCome
