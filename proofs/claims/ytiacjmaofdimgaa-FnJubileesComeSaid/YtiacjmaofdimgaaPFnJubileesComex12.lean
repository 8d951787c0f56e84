-- written by the print program turned for this claim
import Derived.Test.YtiacjmaofdimgaaPFnJubileesComex0
import Derived.Test.YtiacjmaofdimgaaPFnJubileesComex5
import Derived.Test.YtiacjmaofdimgaaPFnJubileesComex9
namespace Go.Proofs.Ytiacjmaofdimgaa.PFnJubileesCome
open Go.RowKit Go.Proofs.YtiacjmaofdimgaaW.PrintWords Go.Proofs.YtiacjmaofdimgaaW.PrintLast Go.Proofs.YtiacjmaofdimgaaW.PrintMore
attribute [local go_sem] max2_int min2_int max_two min_two max_three min_three max_four min_four   -- for this text's walks alone
set_option linter.unusedVariables false
set_option linter.unusedSimpArgs false

noncomputable def laws_FnJubileesCome.code12 (R : Code) : Code := withTail 1 (dropSeq 12 (Try.f3.body.getD .skip)) R
set_option maxHeartbeats 40000000 in
set_option maxRecDepth 100000 in
theorem laws_FnJubileesCome.st12 (A0 : Option Addr) (c0 : Nat) (l0 : List Int) (A1 : Option Addr) (c1 : Nat) (l1 : List Int) (w : World) (hr0 : Kd.C (Kd.int .u8) w A0 l0.length l0) (hc0 : l0.length ≤ c0) (hr1 : Kd.C (Kd.int .u8) w A1 l1.length l1) (hc1 : l1.length ≤ c1) (R : Code) (hR : ∀ (a' : Act) (wc : World), laws_FnJubileesCome.pre13 A0 c0 l0 A1 c1 l1 w a' wc → Code.wp Try.prog R (bodyPost Try.prog Try.f3 (fun e w' => e = .returned (.bool true) ∧ Below w.heap.size w w')) a' wc) (a' : Act) (wc : World) (hP : laws_FnJubileesCome.pre12 A0 c0 l0 A1 c1 l1 w a' wc) :
    Code.wp Try.prog (laws_FnJubileesCome.code12 R) (bodyPost Try.prog Try.f3 (fun e w' => e = .returned (.bool true) ∧ Below w.heap.size w w')) a' wc := by
  have HR0 := Aside0.mk hr0
  have HC0 := Aside0.mk hc0
  clear hr0 hc0
  have HR1 := Aside0.mk hr1
  have HC1 := Aside0.mk hc1
  clear hr1 hc1
  unfold laws_FnJubileesCome.pre12 at hP
  obtain ⟨kq, x5_s12, x6_s12, x7_s12, x8_s12, x9_s12, x10_s12, x13_s12, x17_s12, x18_s12, x23_s12, x24_s12, x25_s12, u5, u9, ⟨hlen, hdef⟩, hq1, hq5, hq6, hq7, hq8, hq9, hq10, hq13, hq17, hq18, hq23, hq24, hq25, HA, HO_5, HO_9, HB⟩ := hP
  obtain ⟨uf, rfl⟩ := laws_FnJubileesCome.frame a' hlen hdef
  clear hlen hdef
  have he1 : uf 1 = (.slice A1 l1.length c1) := hq1
  clear hq1
  have he5 : uf 5 = u5 := hq5
  clear hq5
  have he6 : uf 6 = .int .i64 x6_s12 := hq6
  clear hq6
  have he7 : uf 7 = .int .i64 x7_s12 := hq7
  clear hq7
  have he8 : uf 8 = .int .i64 x8_s12 := hq8
  clear hq8
  have he9 : uf 9 = u9 := hq9
  clear hq9
  have he10 : uf 10 = .bool x10_s12 := hq10
  clear hq10
  have he13 : uf 13 = .int .i64 x13_s12 := hq13
  clear hq13
  have he17 : uf 17 = .int .i64 x17_s12 := hq17
  clear hq17
  have he18 : uf 18 = .int .i64 x18_s12 := hq18
  clear hq18
  have he23 : uf 23 = .int .i64 x23_s12 := hq23
  clear hq23
  have he24 : uf 24 = .int .i64 x24_s12 := hq24
  clear hq24
  have he25 : uf 25 = .bool x25_s12 := hq25
  clear hq25
  simp only [he1, he5, he6, he7, he8, he9, he10, he13, he17, he18, he23, he24, he25]
  clear he1 he5 he6 he7 he8 he9 he10 he13 he17 he18 he23 he24 he25
  dsimp only [laws_FnJubileesCome.code12, withTail, dropSeq, Try.f3, Option.getD]
  rcases kq with _ | kj_s12
  · exact absurd HA.out (by simp [laws_FnJubileesCome.j4])
  have H := HA.out
  clear HA
  simp only [laws_FnJubileesCome.j4] at H
  by_cases c59 : x10_s12 = true
  rotate_left
  · replace c59 := Bool.eq_false_iff.mpr c59
    subst c59
    have H1 : (laws_FnJubileesCome.j10 kj_s12 l1) = some true := by rw [if_neg (show ¬ (false = true) by decide)] at H; first | done | exact H
    clear H
    have H := H1
    clear H1
    have H' := Aside0.mk H
    clear H
    as_aux_lemma =>
      go_wp2
      refine hR _ _ ?_
      unfold laws_FnJubileesCome.pre13
      exact ⟨_, ⟨rfl, rfl⟩, (by first | rfl | (show _ = _; simp [nthV]; done) | (simp [nthV, *]; done)), H', ⟨by repeat (first | (with_reducible first | exact HB.out | apply below_alloc | apply pw_below_drewN | apply below_drew1) | exact HB.out)⟩⟩
  subst c59
  have H1 : (laws_FnJubileesCome.l0 kj_s12 l1 x5_s12 x6_s12 x7_s12 x8_s12 x9_s12 x13_s12 x17_s12 x18_s12 x23_s12 x24_s12 x25_s12 0 0 0 x6_s12) = some true := by rw [if_pos rfl] at H; first | done | exact H
  clear H
  have H := H1
  clear H1
  have H' := Aside0.mk H
  clear H
  as_aux_lemma =>
    go_wp2
    go_loopg [29, 30, 31, 32] kj_s12 (fun kq v29 v30 v31 v32 w' => ∃ (x29_1 : Int) (x30_1 : Int) (x31_1 : Int) (x32_1 : Int), v29 = .int .i64 x29_1 ∧ v30 = .int .i64 x30_1 ∧ v31 = .int .i64 x31_1 ∧ v32 = .int .i64 x32_1 ∧ Aside0 (laws_FnJubileesCome.l0 kq l1 x5_s12 x6_s12 x7_s12 x8_s12 x9_s12 x13_s12 x17_s12 x18_s12 x23_s12 x24_s12 x25_s12 x29_1 x30_1 x31_1 x32_1 = some true) ∧ Aside0 (kq ≤ kj_s12) ∧ Aside0 (Kd.R (Kd.int .i64) 3 w' w.heap.size (fun _ => True) u5 x5_s12) ∧ Aside0 (Kd.S (Kd.slice 3 (Kd.int .i64)) 24 w' w.heap.size (fun k_ => some k_ ≠ (u5 : Value).ownBlock) u9 x9_s12) ∧ Aside0 (Below w.heap.size w w'))
    case atStart => exact ⟨(0), (0), (0), (x6_s12), (by first | rfl | (simp; done) | (simp [*]; done)), (by first | rfl | (simp; done) | (simp [*]; done)), (by first | rfl | (simp; done) | (simp [*]; done)), (by first | rfl | (simp; done) | (simp [*]; done)), H', ⟨Nat.le_refl _⟩, ⟨by (with_reducible repeat (first | apply Kd.R_alloc | apply Kd.R_drewN | apply Kd.R_drew)); exact HO_5.out⟩, ⟨by (with_reducible repeat (first | apply Kd.S_alloc | apply Kd.S_drewN | apply Kd.S_drew)); exact HO_9.out⟩, ⟨by repeat (first | (with_reducible first | exact HB.out | apply below_alloc | apply pw_below_drewN | apply below_drew1) | exact HB.out)⟩⟩
    clear H'
    try clear c1; try clear c59
    obtain ⟨x29_1, x30_1, x31_1, x32_1, rfl, rfl, rfl, rfl, HA, HK1, HO_5, HO_9, HB⟩ := hrel
    rcases gk with _ | k1
    · exact absurd HA.out (by simp [laws_FnJubileesCome.l0])
    have H := HA.out
    clear HA
    simp only [laws_FnJubileesCome.l0] at H
    by_cases c60 : x32_1 ≤ x7_s12
    rotate_left
    · rw [if_neg c60] at H
      have c60b0 : decide (x32_1 ≤ x7_s12) = false := decide_eq_false c60
      clear c60
      have HC103 := Aside0.mk H
      clear H
      as_aux_lemma =>
        go_upto_region 31 with (fail)
        go_cut [372, 249, 250] from 90000 to 90001 (fun v372 _ _ wc => ∃ (kq : Nat) (x372_102 : Bool), v372 = .bool x372_102 ∧ Aside0 (laws_FnJubileesCome.j8 kq l1 x5_s12 x6_s12 x7_s12 x8_s12 x23_s12 x24_s12 x25_s12 x372_102 = some true) ∧ Aside0 (kq ≤ k1) ∧ Aside0 (Kd.R (Kd.int .i64) 3 wc w.heap.size (fun _ => True) u5 x5_s12) ∧ Aside0 (Below w.heap.size w wc))
        case first =>
          have H := HC103.out
          clear HC103
          by_cases c104 : x29_1 = x13_s12
          rotate_left
          · rw [if_neg c104] at H
            have c104b0 : (x29_1 == x13_s12) = false := beq_eq_false_iff_ne.mpr c104
            have c104b1 : (x29_1 != x13_s12) = true := bne_iff_ne.mpr c104
            (first | rw [c104b0] | (simp only [i64_w, i32_w]; rw [c104b0]) | skip)
            exact (laws_FnJubileesCome.dead2 _ _ _ _ _ _ _ _ _ H).elim
          rw [if_pos c104] at H
          have c104b0 : (x29_1 == x13_s12) = true := beq_iff_eq.mpr c104
          have c104b1 : (x29_1 != x13_s12) = false := bne_eq_false_iff_eq.mpr c104
          clear c104
          (first | rw [c104b0] | (simp only [i64_w, i32_w]; rw [c104b0]) | skip)
          have H' := Aside0.mk H
          clear H
          obtain ⟨Ao105, co105, eo105⟩ := Kd.S_slice HO_9.out
          subst eo105
          as_aux_lemma =>
            go_wp2
            go_meet
            case rel => exact ⟨_, ((x30_1 != (x9_s12.length : Int))), (by first | rfl | (simp; done) | (simp [*]; done)), H', ⟨by have := HK1.out; first | omega | exact Nat.le_refl _⟩, ⟨by (with_reducible repeat (first | apply Kd.R_alloc | apply Kd.R_drewN | apply Kd.R_drew)); exact HO_5.out⟩, ⟨by repeat (first | (with_reducible first | exact HB.out | apply below_alloc | apply pw_below_drewN | apply below_drew1) | exact HB.out)⟩⟩
        clear HC103
        try clear c60b0
        obtain ⟨kq, x372_102, rfl, HA, HJ102, HO_5, HB⟩ := hcut
        rcases kq with _ | kj102
        · exact absurd HA.out (by simp [laws_FnJubileesCome.j8])
        have H := HA.out
        clear HA
        simp only [laws_FnJubileesCome.j8] at H
        by_cases c106 : x372_102 = true
        · subst c106
          have H1 : (some false) = some true := by rw [if_pos rfl] at H; first | done | exact H
          clear H
          have H := H1
          clear H1
          exact absurd H (by simp)
        replace c106 := Bool.eq_false_iff.mpr c106
        subst c106
        have H1 : (if x25_s12 = true then (laws_FnJubileesCome.l1 kj102 l1 x5_s12 x6_s12 x7_s12 x8_s12 x23_s12 x24_s12 x23_s12) else (laws_FnJubileesCome.j10 kj102 l1)) = some true := by rw [if_neg (show ¬ (false = true) by decide)] at H; first | done | exact H
        clear H
        have H := H1
        clear H1
        by_cases c107 : x25_s12 = true
        rotate_left
        · replace c107 := Bool.eq_false_iff.mpr c107
          subst c107
          have H1 : (laws_FnJubileesCome.j10 kj102 l1) = some true := by rw [if_neg (show ¬ (false = true) by decide)] at H; first | done | exact H
          clear H
          have H := H1
          clear H1
          have H' := Aside0.mk H
          clear H
          as_aux_lemma =>
            go_wp2
            refine hR _ _ ?_
            unfold laws_FnJubileesCome.pre13
            exact ⟨_, ⟨rfl, rfl⟩, (by first | rfl | (show _ = _; simp [nthV]; done) | (simp [nthV, *]; done)), H', ⟨by repeat (first | (with_reducible first | exact HB.out | apply below_alloc | apply pw_below_drewN | apply below_drew1) | exact HB.out)⟩⟩
        subst c107
        have H1 : (laws_FnJubileesCome.l1 kj102 l1 x5_s12 x6_s12 x7_s12 x8_s12 x23_s12 x24_s12 x23_s12) = some true := by rw [if_pos rfl] at H; first | done | exact H
        clear H
        have H := H1
        clear H1
        have H' := Aside0.mk H
        clear H
        as_aux_lemma =>
          go_wp2
          go_loopg [35] kj102 (fun kq v35 w' => ∃ (x35_3 : Int), v35 = .int .i64 x35_3 ∧ Aside0 (laws_FnJubileesCome.l1 kq l1 x5_s12 x6_s12 x7_s12 x8_s12 x23_s12 x24_s12 x35_3 = some true) ∧ Aside0 (kq ≤ kj102) ∧ Aside0 (Kd.R (Kd.int .i64) 3 w' w.heap.size (fun _ => True) u5 x5_s12) ∧ Aside0 (Below w.heap.size w w'))
          case atStart => exact ⟨(x23_s12), (by first | rfl | (simp; done) | (simp [*]; done)), H', ⟨Nat.le_refl _⟩, ⟨by (with_reducible repeat (first | apply Kd.R_alloc | apply Kd.R_drewN | apply Kd.R_drew)); exact HO_5.out⟩, ⟨by repeat (first | (with_reducible first | exact HB.out | apply below_alloc | apply pw_below_drewN | apply below_drew1) | exact HB.out)⟩⟩
          clear H'
          try clear c106; try clear c107
          obtain ⟨x35_3, rfl, HA, HK3, HO_5, HB⟩ := hrel
          rcases gk with _ | k3
          · exact absurd HA.out (by simp [laws_FnJubileesCome.l1])
          have H := HA.out
          clear HA
          simp only [laws_FnJubileesCome.l1] at H
          by_cases c108 : x35_3 < (wrap64 (x23_s12 + x24_s12))
          rotate_left
          · rw [if_neg c108] at H
            have c108b0 : decide (x35_3 < (wrap64 (x23_s12 + x24_s12))) = false := decide_eq_false c108
            clear c108
            have H' := Aside0.mk H
            clear H
            as_aux_lemma =>
              go_wp2
              refine hR _ _ ?_
              unfold laws_FnJubileesCome.pre13
              exact ⟨_, ⟨rfl, rfl⟩, (by first | rfl | (show _ = _; simp [nthV]; done) | (simp [nthV, *]; done)), H', ⟨by repeat (first | (with_reducible first | exact HB.out | apply below_alloc | apply pw_below_drewN | apply below_drew1) | exact HB.out)⟩⟩
          rw [if_pos c108] at H
          have c108b0 : decide (x35_3 < (wrap64 (x23_s12 + x24_s12))) = true := decide_eq_true c108
          clear c108
          replace H := Option.bind_eq_some_iff.mp H
          obtain ⟨⟨t487, t488⟩, A1090, H⟩ := H
          replace H : (if x35_3 < x6_s12 then (some false) else (if x35_3 > x7_s12 then (some false) else (if t488 = true then (if (t487.length : Int) = 0 then (laws_FnJubileesCome.l1 k3 l1 x5_s12 x6_s12 x7_s12 x8_s12 x23_s12 x24_s12 (wrap64 (x35_3 + 1))) else (some false)) else (some false)))) = some true := H
          have A109 := Aside0.mk A1090
          clear A1090
          by_cases c110 : x35_3 < x6_s12
          · rw [if_pos c110] at H
            have c110b0 : decide (x35_3 < x6_s12) = true := decide_eq_true c110
            clear c110
            exact absurd H (by simp)
          rw [if_neg c110] at H
          have c110b0 : decide (x35_3 < x6_s12) = false := decide_eq_false c110
          clear c110
          by_cases c111 : x35_3 > x7_s12
          · rw [if_pos c111] at H
            have c111b0 : decide (x7_s12 < x35_3) = true := decide_eq_true c111
            clear c111
            exact absurd H (by simp)
          rw [if_neg c111] at H
          have c111b0 : decide (x7_s12 < x35_3) = false := decide_eq_false c111
          clear c111
          by_cases c112 : t488 = true
          rotate_left
          · replace c112 := Bool.eq_false_iff.mpr c112
            subst c112
            have H1 : (some false) = some true := by rw [if_neg (show ¬ (false = true) by decide)] at H; first | done | exact H
            clear H
            have H := H1
            clear H1
            exact absurd H (by simp)
          subst c112
          have H1 : (if (t487.length : Int) = 0 then (laws_FnJubileesCome.l1 k3 l1 x5_s12 x6_s12 x7_s12 x8_s12 x23_s12 x24_s12 (wrap64 (x35_3 + 1))) else (some false)) = some true := by rw [if_pos rfl] at H; first | done | exact H
          clear H
          have H := H1
          clear H1
          by_cases c113 : (t487.length : Int) = 0
          rotate_left
          · rw [if_neg c113] at H
            have c113b0 : ((t487.length : Int) == 0) = false := beq_eq_false_iff_ne.mpr c113
            have c113b1 : ((t487.length : Int) != 0) = true := bne_iff_ne.mpr c113
            have c113b2 : ¬ (t487 = []) := fun h_ => c113 (by rw [h_]; rfl)
            exact absurd H (by simp)
          rw [if_pos c113] at H
          have c113b0 : ((t487.length : Int) == 0) = true := beq_iff_eq.mpr c113
          have c113b1 : ((t487.length : Int) != 0) = false := bne_eq_false_iff_eq.mpr c113
          clear c113
          have H' := Aside0.mk H
          clear H
          obtain ⟨Ao114, co114, eo114⟩ := Kd.R_slice HO_5.out
          subst eo114
          as_aux_lemma =>
            go_wp2_with (first | ((with_reducible refine gate_callee (f := 17) rfl ?_); refine goesL_ (some 386) rfl rfl Try.func17 (by kernel_rfl) rfl #[.slice Ao114 x5_s12.length co114, .int .i64 x35_3, .int .i64 x8_s12] rfl (by (try simp only [List.map_toArray, List.map_cons, List.map_nil]); first | done | rfl | (simp only [List.length_drop, List.length_take]; rfl)) ?_; (with_reducible refine (impl_JubileesIn.calls k3 _ _ x5_s12 x35_3 x8_s12 t487 true _ ?side1 ?side2 A109.out).mono ?_); (case side1 => repeat (first | exact (Kd.R_reads' HO_5.out).2.2 | (with_reducible refine Kd.C_alloc ?_ _) | (with_reducible refine Kd.C_drewN ?_ _) | (with_reducible refine Kd.C_drew ?_))); (case side2 => exact (Kd.R_reads' HO_5.out).2.1); rintro e w115 ⟨v489, rfl, ho0, hb⟩; refine ⟨_, rfl, ?_⟩; have n0_ := Aside0.mk (Kd.R_elder' (by (with_reducible repeat (first | apply Kd.R_alloc | apply Kd.R_drewN | apply Kd.R_drew)); exact HO_5.out) (Kd.R_base ho0) hb); have n1_ := Aside0.mk (Kd.R_lower (Kd.R_new' ho0 (Kd.R_lt (by (with_reducible repeat (first | apply Kd.R_alloc | apply Kd.R_drewN | apply Kd.R_drew)); exact HO_5.out))) (below_size (by repeat (first | (with_reducible first | exact HB.out | apply below_alloc | apply pw_below_drewN | apply below_drew1) | exact HB.out)))); have n2_ := Aside0.mk (below_step (by repeat (first | (with_reducible first | exact HB.out | apply below_alloc | apply pw_below_drewN | apply below_drew1) | exact HB.out)) hb); clear HO_5; clear HB; have HO_5 := n0_; have HO490 := n1_; have HB := n2_; clear n0_ n1_ n2_; (try clear hb); (try clear hb2); (try clear hk); (try clear hi); (try clear ho0); obtain ⟨Ao116, co116, eo116⟩ := Kd.R_slice HO490.out; subst eo116))
            go_roundg k3
            case measure => have := HK1.out; have := HJ102.out; have := HK3.out; omega
            case rel => exact ⟨(wrap64 (x35_3 + 1)), (by first | rfl | (simp; done) | (simp [*]; done)), H', ⟨by have := HK1.out; have := HJ102.out; have := HK3.out; omega⟩, ⟨by (with_reducible repeat (first | apply Kd.R_alloc | apply Kd.R_drewN | apply Kd.R_drew)); exact Kd.R_mono HO_5.out (fun _ hk => trivial)⟩, ⟨by repeat (first | (with_reducible first | exact HB.out | apply below_alloc | apply pw_below_drewN | apply below_drew1) | exact HB.out)⟩⟩
    rw [if_pos c60] at H
    have c60b0 : decide (x32_1 ≤ x7_s12) = true := decide_eq_true c60
    clear c60
    replace H := Option.bind_eq_some_iff.mp H
    obtain ⟨⟨t473, t474⟩, A610, H⟩ := H
    (try dsimp only at H)
    have A61 := Aside0.mk A610
    clear A610
    have HC62 := Aside0.mk H
    clear H
    obtain ⟨Ao63, co63, eo63⟩ := Kd.R_slice HO_5.out
    subst eo63
    as_aux_lemma =>
      go_upto_region 20 with (first | ((with_reducible refine gate_callee (f := 17) rfl ?_); refine goesL_ (some 260) rfl rfl Try.func17 (by kernel_rfl) rfl #[.slice Ao63 x5_s12.length co63, .int .i64 x32_1, .int .i64 x8_s12] rfl (by (try simp only [List.map_toArray, List.map_cons, List.map_nil]); first | done | rfl | (simp only [List.length_drop, List.length_take]; rfl)) ?_; (with_reducible refine (impl_JubileesIn.calls k1 _ _ x5_s12 x32_1 x8_s12 t473 t474 _ ?side1 ?side2 A61.out).mono ?_); (case side1 => repeat (first | exact (Kd.R_reads' HO_5.out).2.2 | (with_reducible refine Kd.C_alloc ?_ _) | (with_reducible refine Kd.C_drewN ?_ _) | (with_reducible refine Kd.C_drew ?_))); (case side2 => exact (Kd.R_reads' HO_5.out).2.1); rintro e w64 ⟨v475, rfl, ho0, hb⟩; refine ⟨_, rfl, ?_⟩; have n0_ := Aside0.mk (Kd.R_elder' (by (with_reducible repeat (first | apply Kd.R_alloc | apply Kd.R_drewN | apply Kd.R_drew)); exact HO_5.out) (Kd.R_base ho0) hb); have n1_ := Aside0.mk (Kd.S_elder' (by (with_reducible repeat (first | apply Kd.S_alloc | apply Kd.S_drewN | apply Kd.S_drew)); exact HO_9.out) (Kd.R_base ho0) hb); have n2_ := Aside0.mk (Kd.R_lower (Kd.R_new' ho0 (Kd.R_lt (by (with_reducible repeat (first | apply Kd.R_alloc | apply Kd.R_drewN | apply Kd.R_drew)); exact HO_5.out))) (below_size (by repeat (first | (with_reducible first | exact HB.out | apply below_alloc | apply pw_below_drewN | apply below_drew1) | exact HB.out)))); have n3_ := Aside0.mk (below_step (by repeat (first | (with_reducible first | exact HB.out | apply below_alloc | apply pw_below_drewN | apply below_drew1) | exact HB.out)) hb); clear HO_5; clear HO_9; clear HB; have HO_5 := n0_; have HO_9 := n1_; have HO476 := n2_; have HB := n3_; clear n0_ n1_ n2_ n3_; (try clear hb); (try clear hb2); (try clear hk); (try clear hi); (try clear ho0)))
      (try simp only [Act.put, List.setIfInBounds_toArray, List.set_cons_zero, List.set_cons_succ])
      go_cut [297, 251, 252, 253, 254, 255, 256, 257, 258, 259, 260, 261, 262] from 90000 to 90001 (fun v297 _ _ _ _ _ _ _ _ _ _ _ _ wc => ∃ (kq : Nat) (x297_61 : Bool), v297 = .bool x297_61 ∧ Aside0 (laws_FnJubileesCome.j6 kq l1 x5_s12 x6_s12 x7_s12 x8_s12 x9_s12 x13_s12 x17_s12 x18_s12 x23_s12 x24_s12 x25_s12 x29_1 x30_1 x31_1 x32_1 t473 x297_61 = some true) ∧ Aside0 (kq ≤ k1) ∧ Aside0 (Kd.R (Kd.int .i64) 3 wc w.heap.size (fun k_ => some k_ ≠ (v475 : Value).ownBlock) (.slice Ao63 x5_s12.length co63) x5_s12) ∧ Aside0 (Kd.S (Kd.slice 3 (Kd.int .i64)) 24 wc w.heap.size (fun k_ => some k_ ≠ ((.slice Ao63 x5_s12.length co63) : Value).ownBlock ∧ some k_ ≠ (v475 : Value).ownBlock) u9 x9_s12) ∧ Aside0 (Kd.R (Kd.int .i64) 3 wc w.heap.size (fun k_ => some k_ ≠ ((.slice Ao63 x5_s12.length co63) : Value).ownBlock) v475 t473) ∧ Aside0 (Below w.heap.size w wc))
      case first =>
        have H := HC62.out
        clear HC62
        by_cases c65 : t474 = true
        rotate_left
        · replace c65 := Bool.eq_false_iff.mpr c65
          subst c65
          have H1 : (laws_FnJubileesCome.j6 k1 l1 x5_s12 x6_s12 x7_s12 x8_s12 x9_s12 x13_s12 x17_s12 x18_s12 x23_s12 x24_s12 x25_s12 x29_1 x30_1 x31_1 x32_1 t473 true) = some true := by rw [if_neg (show ¬ (false = true) by decide)] at H; first | done | exact H
          clear H
          have H := H1
          clear H1
          exact (laws_FnJubileesCome.dead0 _ _ _ _ _ _ _ _ _ _ _ _ _ _ _ _ _ _ H).elim
        subst c65
        have H1 : ((laws_qRises.f k1 t473).bind fun t477 => (if t477 = true then (if (t473.length : Int) > x18_s12 then (laws_FnJubileesCome.j6 k1 l1 x5_s12 x6_s12 x7_s12 x8_s12 x9_s12 x13_s12 x17_s12 x18_s12 x23_s12 x24_s12 x25_s12 x29_1 x30_1 x31_1 x32_1 t473 true) else (if (t473.length : Int) = x18_s12 then (if x32_1 < x17_s12 then (laws_FnJubileesCome.j6 k1 l1 x5_s12 x6_s12 x7_s12 x8_s12 x9_s12 x13_s12 x17_s12 x18_s12 x23_s12 x24_s12 x25_s12 x29_1 x30_1 x31_1 x32_1 t473 true) else (if x32_1 = x17_s12 then (laws_FnJubileesCome.j6 k1 l1 x5_s12 x6_s12 x7_s12 x8_s12 x9_s12 x13_s12 x17_s12 x18_s12 x23_s12 x24_s12 x25_s12 x29_1 x30_1 x31_1 x32_1 t473 ((t473.length : Int) != x18_s12)) else (laws_FnJubileesCome.j6 k1 l1 x5_s12 x6_s12 x7_s12 x8_s12 x9_s12 x13_s12 x17_s12 x18_s12 x23_s12 x24_s12 x25_s12 x29_1 x30_1 x31_1 x32_1 t473 false))) else (if x32_1 = x17_s12 then (laws_FnJubileesCome.j6 k1 l1 x5_s12 x6_s12 x7_s12 x8_s12 x9_s12 x13_s12 x17_s12 x18_s12 x23_s12 x24_s12 x25_s12 x29_1 x30_1 x31_1 x32_1 t473 ((t473.length : Int) != x18_s12)) else (laws_FnJubileesCome.j6 k1 l1 x5_s12 x6_s12 x7_s12 x8_s12 x9_s12 x13_s12 x17_s12 x18_s12 x23_s12 x24_s12 x25_s12 x29_1 x30_1 x31_1 x32_1 t473 false)))) else (laws_FnJubileesCome.j6 k1 l1 x5_s12 x6_s12 x7_s12 x8_s12 x9_s12 x13_s12 x17_s12 x18_s12 x23_s12 x24_s12 x25_s12 x29_1 x30_1 x31_1 x32_1 t473 true))) = some true := by rw [if_pos rfl] at H; first | done | exact H
        clear H
        have H := H1
        clear H1
        replace H := Option.bind_eq_some_iff.mp H
        obtain ⟨t477, A660, H⟩ := H
        (try dsimp only at H)
        have A66 := Aside0.mk A660
        clear A660
        by_cases c67 : t477 = true
        rotate_left
        · replace c67 := Bool.eq_false_iff.mpr c67
          subst c67
          have H1 : (laws_FnJubileesCome.j6 k1 l1 x5_s12 x6_s12 x7_s12 x8_s12 x9_s12 x13_s12 x17_s12 x18_s12 x23_s12 x24_s12 x25_s12 x29_1 x30_1 x31_1 x32_1 t473 true) = some true := by rw [if_neg (show ¬ (false = true) by decide)] at H; first | done | exact H
          clear H
          have H := H1
          clear H1
          exact (laws_FnJubileesCome.dead0 _ _ _ _ _ _ _ _ _ _ _ _ _ _ _ _ _ _ H).elim
        subst c67
        have H1 : (if (t473.length : Int) > x18_s12 then (laws_FnJubileesCome.j6 k1 l1 x5_s12 x6_s12 x7_s12 x8_s12 x9_s12 x13_s12 x17_s12 x18_s12 x23_s12 x24_s12 x25_s12 x29_1 x30_1 x31_1 x32_1 t473 true) else (if (t473.length : Int) = x18_s12 then (if x32_1 < x17_s12 then (laws_FnJubileesCome.j6 k1 l1 x5_s12 x6_s12 x7_s12 x8_s12 x9_s12 x13_s12 x17_s12 x18_s12 x23_s12 x24_s12 x25_s12 x29_1 x30_1 x31_1 x32_1 t473 true) else (if x32_1 = x17_s12 then (laws_FnJubileesCome.j6 k1 l1 x5_s12 x6_s12 x7_s12 x8_s12 x9_s12 x13_s12 x17_s12 x18_s12 x23_s12 x24_s12 x25_s12 x29_1 x30_1 x31_1 x32_1 t473 ((t473.length : Int) != x18_s12)) else (laws_FnJubileesCome.j6 k1 l1 x5_s12 x6_s12 x7_s12 x8_s12 x9_s12 x13_s12 x17_s12 x18_s12 x23_s12 x24_s12 x25_s12 x29_1 x30_1 x31_1 x32_1 t473 false))) else (if x32_1 = x17_s12 then (laws_FnJubileesCome.j6 k1 l1 x5_s12 x6_s12 x7_s12 x8_s12 x9_s12 x13_s12 x17_s12 x18_s12 x23_s12 x24_s12 x25_s12 x29_1 x30_1 x31_1 x32_1 t473 ((t473.length : Int) != x18_s12)) else (laws_FnJubileesCome.j6 k1 l1 x5_s12 x6_s12 x7_s12 x8_s12 x9_s12 x13_s12 x17_s12 x18_s12 x23_s12 x24_s12 x25_s12 x29_1 x30_1 x31_1 x32_1 t473 false)))) = some true := by rw [if_pos rfl] at H; first | done | exact H
        clear H
        have H := H1
        clear H1
        by_cases c68 : (t473.length : Int) > x18_s12
        · rw [if_pos c68] at H
          have c68b0 : decide (x18_s12 < (t473.length : Int)) = true := decide_eq_true c68
          clear c68
          (first | rw [c68b0] | (simp only [i64_w, i32_w]; rw [c68b0]) | skip)
          exact (laws_FnJubileesCome.dead0 _ _ _ _ _ _ _ _ _ _ _ _ _ _ _ _ _ _ H).elim
        rw [if_neg c68] at H
        have c68b0 : decide (x18_s12 < (t473.length : Int)) = false := decide_eq_false c68
        clear c68
        (first | rw [c68b0] | (simp only [i64_w, i32_w]; rw [c68b0]) | skip)
        by_cases c69 : (t473.length : Int) = x18_s12
        rotate_left
        · rw [if_neg c69] at H
          have c69b0 : ((t473.length : Int) == x18_s12) = false := beq_eq_false_iff_ne.mpr c69
          have c69b1 : ((t473.length : Int) != x18_s12) = true := bne_iff_ne.mpr c69
          by_cases c74 : x32_1 = x17_s12
          rotate_left
          · rw [if_neg c74] at H
            have c74b0 : (x32_1 == x17_s12) = false := beq_eq_false_iff_ne.mpr c74
            have c74b1 : (x32_1 != x17_s12) = true := bne_iff_ne.mpr c74
            have H' := Aside0.mk H
            clear H
            obtain ⟨Ao76, co76, eo76⟩ := Kd.R_slice HO476.out
            subst eo76
            as_aux_lemma =>
              go_wp2_with (first | (go_at_call 18; (with_reducible refine (laws_qRises.calls k1 _ _ t473 true _ ?side1 ?side2 A66.out).mono ?_); (case side1 => repeat (first | exact (Kd.R_reads' HO476.out).2.2 | (with_reducible refine Kd.C_alloc ?_ _) | (with_reducible refine Kd.C_drewN ?_ _) | (with_reducible refine Kd.C_drew ?_))); (case side2 => exact (Kd.R_reads' HO476.out).2.1); rintro e w' ⟨rfl, ⟨nd, rfl⟩⟩))
              go_meet
              case rel => exact ⟨_, (false), (by first | rfl | (simp; done) | (simp [*]; done)), H', ⟨by have := HK1.out; first | omega | exact Nat.le_refl _⟩, ⟨by (with_reducible repeat (first | apply Kd.R_alloc | apply Kd.R_drewN | apply Kd.R_drew)); exact Kd.R_mono HO_5.out (fun _ hk => hk.2)⟩, ⟨by (with_reducible repeat (first | apply Kd.S_alloc | apply Kd.S_drewN | apply Kd.S_drew)); exact HO_9.out⟩, ⟨by (with_reducible repeat (first | apply Kd.R_alloc | apply Kd.R_drewN | apply Kd.R_drew)); exact Kd.R_mono HO476.out (fun _ hk => hk.2)⟩, ⟨by repeat (first | (with_reducible first | exact HB.out | apply below_alloc | apply pw_below_drewN | apply below_drew1) | exact HB.out)⟩⟩
          rw [if_pos c74] at H
          have c74b0 : (x32_1 == x17_s12) = true := beq_iff_eq.mpr c74
          have c74b1 : (x32_1 != x17_s12) = false := bne_eq_false_iff_eq.mpr c74
          clear c74
          have H' := Aside0.mk H
          clear H
          obtain ⟨Ao75, co75, eo75⟩ := Kd.R_slice HO476.out
          subst eo75
          as_aux_lemma =>
            go_wp2_with (first | (go_at_call 18; (with_reducible refine (laws_qRises.calls k1 _ _ t473 true _ ?side1 ?side2 A66.out).mono ?_); (case side1 => repeat (first | exact (Kd.R_reads' HO476.out).2.2 | (with_reducible refine Kd.C_alloc ?_ _) | (with_reducible refine Kd.C_drewN ?_ _) | (with_reducible refine Kd.C_drew ?_))); (case side2 => exact (Kd.R_reads' HO476.out).2.1); rintro e w' ⟨rfl, ⟨nd, rfl⟩⟩))
            go_meet
            case rel => exact ⟨_, (((t473.length : Int) != x18_s12)), (by first | rfl | (simp; done) | (simp [*]; done)), H', ⟨by have := HK1.out; first | omega | exact Nat.le_refl _⟩, ⟨by (with_reducible repeat (first | apply Kd.R_alloc | apply Kd.R_drewN | apply Kd.R_drew)); exact Kd.R_mono HO_5.out (fun _ hk => hk.2)⟩, ⟨by (with_reducible repeat (first | apply Kd.S_alloc | apply Kd.S_drewN | apply Kd.S_drew)); exact HO_9.out⟩, ⟨by (with_reducible repeat (first | apply Kd.R_alloc | apply Kd.R_drewN | apply Kd.R_drew)); exact Kd.R_mono HO476.out (fun _ hk => hk.2)⟩, ⟨by repeat (first | (with_reducible first | exact HB.out | apply below_alloc | apply pw_below_drewN | apply below_drew1) | exact HB.out)⟩⟩
        rw [if_pos c69] at H
        have c69b0 : ((t473.length : Int) == x18_s12) = true := beq_iff_eq.mpr c69
        have c69b1 : ((t473.length : Int) != x18_s12) = false := bne_eq_false_iff_eq.mpr c69
        clear c69
        by_cases c70 : x32_1 < x17_s12
        · rw [if_pos c70] at H
          have c70b0 : decide (x32_1 < x17_s12) = true := decide_eq_true c70
          clear c70
          exact (laws_FnJubileesCome.dead0 _ _ _ _ _ _ _ _ _ _ _ _ _ _ _ _ _ _ H).elim
        rw [if_neg c70] at H
        have c70b0 : decide (x32_1 < x17_s12) = false := decide_eq_false c70
        clear c70
        by_cases c71 : x32_1 = x17_s12
        rotate_left
        · rw [if_neg c71] at H
          have c71b0 : (x32_1 == x17_s12) = false := beq_eq_false_iff_ne.mpr c71
          have c71b1 : (x32_1 != x17_s12) = true := bne_iff_ne.mpr c71
          have H' := Aside0.mk H
          clear H
          obtain ⟨Ao73, co73, eo73⟩ := Kd.R_slice HO476.out
          subst eo73
          as_aux_lemma =>
            go_wp2_with (first | (go_at_call 18; (with_reducible refine (laws_qRises.calls k1 _ _ t473 true _ ?side1 ?side2 A66.out).mono ?_); (case side1 => repeat (first | exact (Kd.R_reads' HO476.out).2.2 | (with_reducible refine Kd.C_alloc ?_ _) | (with_reducible refine Kd.C_drewN ?_ _) | (with_reducible refine Kd.C_drew ?_))); (case side2 => exact (Kd.R_reads' HO476.out).2.1); rintro e w' ⟨rfl, ⟨nd, rfl⟩⟩))
            go_meet
            case rel => exact ⟨_, (false), (by first | rfl | (simp; done) | (simp [*]; done)), H', ⟨by have := HK1.out; first | omega | exact Nat.le_refl _⟩, ⟨by (with_reducible repeat (first | apply Kd.R_alloc | apply Kd.R_drewN | apply Kd.R_drew)); exact Kd.R_mono HO_5.out (fun _ hk => hk.2)⟩, ⟨by (with_reducible repeat (first | apply Kd.S_alloc | apply Kd.S_drewN | apply Kd.S_drew)); exact HO_9.out⟩, ⟨by (with_reducible repeat (first | apply Kd.R_alloc | apply Kd.R_drewN | apply Kd.R_drew)); exact Kd.R_mono HO476.out (fun _ hk => hk.2)⟩, ⟨by repeat (first | (with_reducible first | exact HB.out | apply below_alloc | apply pw_below_drewN | apply below_drew1) | exact HB.out)⟩⟩
        rw [if_pos c71] at H
        have c71b0 : (x32_1 == x17_s12) = true := beq_iff_eq.mpr c71
        have c71b1 : (x32_1 != x17_s12) = false := bne_eq_false_iff_eq.mpr c71
        clear c71
        have H' := Aside0.mk H
        clear H
        obtain ⟨Ao72, co72, eo72⟩ := Kd.R_slice HO476.out
        subst eo72
        as_aux_lemma =>
          go_wp2_with (first | (go_at_call 18; (with_reducible refine (laws_qRises.calls k1 _ _ t473 true _ ?side1 ?side2 A66.out).mono ?_); (case side1 => repeat (first | exact (Kd.R_reads' HO476.out).2.2 | (with_reducible refine Kd.C_alloc ?_ _) | (with_reducible refine Kd.C_drewN ?_ _) | (with_reducible refine Kd.C_drew ?_))); (case side2 => exact (Kd.R_reads' HO476.out).2.1); rintro e w' ⟨rfl, ⟨nd, rfl⟩⟩))
          go_meet
          case rel => exact ⟨_, (((t473.length : Int) != x18_s12)), (by first | rfl | (simp; done) | (simp [*]; done)), H', ⟨by have := HK1.out; first | omega | exact Nat.le_refl _⟩, ⟨by (with_reducible repeat (first | apply Kd.R_alloc | apply Kd.R_drewN | apply Kd.R_drew)); exact Kd.R_mono HO_5.out (fun _ hk => hk.2)⟩, ⟨by (with_reducible repeat (first | apply Kd.S_alloc | apply Kd.S_drewN | apply Kd.S_drew)); exact HO_9.out⟩, ⟨by (with_reducible repeat (first | apply Kd.R_alloc | apply Kd.R_drewN | apply Kd.R_drew)); exact Kd.R_mono HO476.out (fun _ hk => hk.2)⟩, ⟨by repeat (first | (with_reducible first | exact HB.out | apply below_alloc | apply pw_below_drewN | apply below_drew1) | exact HB.out)⟩⟩
      clear HC62
      try clear c60b0
      obtain ⟨kq, x297_61, rfl, HA, HJ61, HO_5, HO_9, HO_33, HB⟩ := hcut
      rcases kq with _ | kj61
      · exact absurd HA.out (by simp [laws_FnJubileesCome.j6])
      have H := HA.out
      clear HA
      simp only [laws_FnJubileesCome.j6] at H
      by_cases c77 : x297_61 = true
      · subst c77
        have H1 : (some false) = some true := by rw [if_pos rfl] at H; first | done | exact H
        clear H
        have H := H1
        clear H1
        exact absurd H (by simp)
      replace c77 := Bool.eq_false_iff.mpr c77
      subst c77
      have H1 : (if (t473.length : Int) > 0 then (if x30_1 ≥ (x9_s12.length : Int) then (laws_FnJubileesCome.j7 kj61 l1 x5_s12 x6_s12 x7_s12 x8_s12 x9_s12 x13_s12 x17_s12 x18_s12 x23_s12 x24_s12 x25_s12 (wrap64 (x29_1 + (t473.length : Int))) x30_1 x32_1 true) else (if 0 ≤ x30_1 then (if x30_1 < (x9_s12.length : Int) then (if ((rd_L2 x9_s12 x30_1).length : Int) = (wrap64 ((t473.length : Int) + 1)) then (if 0 < ((rd_L2 x9_s12 x30_1).length : Int) then (if (rd (rd_L2 x9_s12 x30_1) 0) = x32_1 then (if 1 ≤ ((rd_L2 x9_s12 x30_1).length : Int) then ((laws_qSame.f kj61 ((rd_L2 x9_s12 x30_1).drop 1) t473).bind fun t486 => (laws_FnJubileesCome.j7 kj61 l1 x5_s12 x6_s12 x7_s12 x8_s12 x9_s12 x13_s12 x17_s12 x18_s12 x23_s12 x24_s12 x25_s12 (wrap64 (x29_1 + (t473.length : Int))) x30_1 x32_1 (!t486))) else (none)) else (laws_FnJubileesCome.j7 kj61 l1 x5_s12 x6_s12 x7_s12 x8_s12 x9_s12 x13_s12 x17_s12 x18_s12 x23_s12 x24_s12 x25_s12 (wrap64 (x29_1 + (t473.length : Int))) x30_1 x32_1 true)) else (none)) else (laws_FnJubileesCome.j7 kj61 l1 x5_s12 x6_s12 x7_s12 x8_s12 x9_s12 x13_s12 x17_s12 x18_s12 x23_s12 x24_s12 x25_s12 (wrap64 (x29_1 + (t473.length : Int))) x30_1 x32_1 true)) else (none)) else (none))) else (if (wrap64 (x31_1 + 1)) > x24_s12 then (some false) else (if (wrap64 (x31_1 + 1)) = x24_s12 then (if (wrap64 (x31_1 + 1)) > 0 then (if (wrap64 ((wrap64 (x32_1 - (wrap64 (x31_1 + 1)))) + 1)) < x23_s12 then (some false) else (laws_FnJubileesCome.l0 kj61 l1 x5_s12 x6_s12 x7_s12 x8_s12 x9_s12 x13_s12 x17_s12 x18_s12 x23_s12 x24_s12 x25_s12 (wrap64 (x29_1 + (t473.length : Int))) x30_1 (wrap64 (x31_1 + 1)) (wrap64 (x32_1 + 1)))) else (laws_FnJubileesCome.l0 kj61 l1 x5_s12 x6_s12 x7_s12 x8_s12 x9_s12 x13_s12 x17_s12 x18_s12 x23_s12 x24_s12 x25_s12 (wrap64 (x29_1 + (t473.length : Int))) x30_1 (wrap64 (x31_1 + 1)) (wrap64 (x32_1 + 1)))) else (laws_FnJubileesCome.l0 kj61 l1 x5_s12 x6_s12 x7_s12 x8_s12 x9_s12 x13_s12 x17_s12 x18_s12 x23_s12 x24_s12 x25_s12 (wrap64 (x29_1 + (t473.length : Int))) x30_1 (wrap64 (x31_1 + 1)) (wrap64 (x32_1 + 1)))))) = some true := by rw [if_neg (show ¬ (false = true) by decide)] at H; first | done | exact H
      clear H
      have H := H1
      clear H1
      by_cases c78 : (t473.length : Int) > 0
      rotate_left
      · rw [if_neg c78] at H
        have c78b0 : decide (0 < (t473.length : Int)) = false := decide_eq_false c78
        have c78b1 : decide (0 < t473.length) = false := decide_eq_false (by omega)
        clear c78
        by_cases c96 : (wrap64 (x31_1 + 1)) > x24_s12
        · rw [if_pos c96] at H
          have c96b0 : decide (x24_s12 < (wrap64 (x31_1 + 1))) = true := decide_eq_true c96
          clear c96
          exact absurd H (by simp)
        rw [if_neg c96] at H
        have c96b0 : decide (x24_s12 < (wrap64 (x31_1 + 1))) = false := decide_eq_false c96
        clear c96
        by_cases c97 : (wrap64 (x31_1 + 1)) = x24_s12
        rotate_left
        · rw [if_neg c97] at H
          have c97b0 : ((wrap64 (x31_1 + 1)) == x24_s12) = false := beq_eq_false_iff_ne.mpr c97
          have c97b1 : ((wrap64 (x31_1 + 1)) != x24_s12) = true := bne_iff_ne.mpr c97
          have H' := Aside0.mk H
          clear H
          obtain ⟨Ao102, co102, eo102⟩ := Kd.R_slice HO_33.out
          subst eo102
          as_aux_lemma =>
            go_wp2
            go_roundg kj61
            case measure => have := HK1.out; have := HJ61.out; omega
            case rel => exact ⟨(wrap64 (x29_1 + (t473.length : Int))), (x30_1), (wrap64 (x31_1 + 1)), (wrap64 (x32_1 + 1)), (by first | rfl | (simp; done) | (simp [*]; done)), (by first | rfl | (simp; done) | (simp [*]; done)), (by first | rfl | (simp; done) | (simp [*]; done)), (by first | rfl | (simp; done) | (simp [*]; done)), H', ⟨by have := HK1.out; have := HJ61.out; omega⟩, ⟨by (with_reducible repeat (first | apply Kd.R_alloc | apply Kd.R_drewN | apply Kd.R_drew)); exact Kd.R_mono HO_5.out (fun _ hk => trivial)⟩, ⟨by (with_reducible repeat (first | apply Kd.S_alloc | apply Kd.S_drewN | apply Kd.S_drew)); exact Kd.S_mono HO_9.out (fun _ hk => hk.1)⟩, ⟨by repeat (first | (with_reducible first | exact HB.out | apply below_alloc | apply pw_below_drewN | apply below_drew1) | exact HB.out)⟩⟩
        rw [if_pos c97] at H
        have c97b0 : ((wrap64 (x31_1 + 1)) == x24_s12) = true := beq_iff_eq.mpr c97
        have c97b1 : ((wrap64 (x31_1 + 1)) != x24_s12) = false := bne_eq_false_iff_eq.mpr c97
        clear c97
        by_cases c98 : (wrap64 (x31_1 + 1)) > 0
        rotate_left
        · rw [if_neg c98] at H
          have c98b0 : decide (0 < (wrap64 (x31_1 + 1))) = false := decide_eq_false c98
          clear c98
          have H' := Aside0.mk H
          clear H
          obtain ⟨Ao101, co101, eo101⟩ := Kd.R_slice HO_33.out
          subst eo101
          as_aux_lemma =>
            go_wp2
            go_roundg kj61
            case measure => have := HK1.out; have := HJ61.out; omega
            case rel => exact ⟨(wrap64 (x29_1 + (t473.length : Int))), (x30_1), (wrap64 (x31_1 + 1)), (wrap64 (x32_1 + 1)), (by first | rfl | (simp; done) | (simp [*]; done)), (by first | rfl | (simp; done) | (simp [*]; done)), (by first | rfl | (simp; done) | (simp [*]; done)), (by first | rfl | (simp; done) | (simp [*]; done)), H', ⟨by have := HK1.out; have := HJ61.out; omega⟩, ⟨by (with_reducible repeat (first | apply Kd.R_alloc | apply Kd.R_drewN | apply Kd.R_drew)); exact Kd.R_mono HO_5.out (fun _ hk => trivial)⟩, ⟨by (with_reducible repeat (first | apply Kd.S_alloc | apply Kd.S_drewN | apply Kd.S_drew)); exact Kd.S_mono HO_9.out (fun _ hk => hk.1)⟩, ⟨by repeat (first | (with_reducible first | exact HB.out | apply below_alloc | apply pw_below_drewN | apply below_drew1) | exact HB.out)⟩⟩
        rw [if_pos c98] at H
        have c98b0 : decide (0 < (wrap64 (x31_1 + 1))) = true := decide_eq_true c98
        clear c98
        by_cases c99 : (wrap64 ((wrap64 (x32_1 - (wrap64 (x31_1 + 1)))) + 1)) < x23_s12
        · rw [if_pos c99] at H
          have c99b0 : decide ((wrap64 ((wrap64 (x32_1 - (wrap64 (x31_1 + 1)))) + 1)) < x23_s12) = true := decide_eq_true c99
          clear c99
          exact absurd H (by simp)
        rw [if_neg c99] at H
        have c99b0 : decide ((wrap64 ((wrap64 (x32_1 - (wrap64 (x31_1 + 1)))) + 1)) < x23_s12) = false := decide_eq_false c99
        clear c99
        have H' := Aside0.mk H
        clear H
        obtain ⟨Ao100, co100, eo100⟩ := Kd.R_slice HO_33.out
        subst eo100
        as_aux_lemma =>
          go_wp2
          go_roundg kj61
          case measure => have := HK1.out; have := HJ61.out; omega
          case rel => exact ⟨(wrap64 (x29_1 + (t473.length : Int))), (x30_1), (wrap64 (x31_1 + 1)), (wrap64 (x32_1 + 1)), (by first | rfl | (simp; done) | (simp [*]; done)), (by first | rfl | (simp; done) | (simp [*]; done)), (by first | rfl | (simp; done) | (simp [*]; done)), (by first | rfl | (simp; done) | (simp [*]; done)), H', ⟨by have := HK1.out; have := HJ61.out; omega⟩, ⟨by (with_reducible repeat (first | apply Kd.R_alloc | apply Kd.R_drewN | apply Kd.R_drew)); exact Kd.R_mono HO_5.out (fun _ hk => trivial)⟩, ⟨by (with_reducible repeat (first | apply Kd.S_alloc | apply Kd.S_drewN | apply Kd.S_drew)); exact Kd.S_mono HO_9.out (fun _ hk => hk.1)⟩, ⟨by repeat (first | (with_reducible first | exact HB.out | apply below_alloc | apply pw_below_drewN | apply below_drew1) | exact HB.out)⟩⟩
      rw [if_pos c78] at H
      have c78b0 : decide (0 < (t473.length : Int)) = true := decide_eq_true c78
      have c78b1 : decide (0 < t473.length) = true := decide_eq_true (by omega)
      clear c78
      have HC79 := Aside0.mk H
      clear H
      obtain ⟨Ao80, co80, eo80⟩ := Kd.R_slice HO_33.out
      subst eo80
      as_aux_lemma =>
        go_upto_region 25 with (fail)
        go_cut [341, 298, 299, 300, 301, 302, 303, 304, 305, 306] from 90000 to 90001 (fun v341 _ _ _ _ _ _ _ _ _ wc => ∃ (kq : Nat) (x341_78 : Bool), v341 = .bool x341_78 ∧ Aside0 (laws_FnJubileesCome.j7 kq l1 x5_s12 x6_s12 x7_s12 x8_s12 x9_s12 x13_s12 x17_s12 x18_s12 x23_s12 x24_s12 x25_s12 (wrap64 (x29_1 + (t473.length : Int))) x30_1 x32_1 x341_78 = some true) ∧ Aside0 (kq ≤ kj61) ∧ Aside0 (Kd.R (Kd.int .i64) 3 wc w.heap.size (fun _ => True) (.slice Ao63 x5_s12.length co63) x5_s12) ∧ Aside0 (Kd.S (Kd.slice 3 (Kd.int .i64)) 24 wc w.heap.size (fun k_ => some k_ ≠ ((.slice Ao63 x5_s12.length co63) : Value).ownBlock) u9 x9_s12) ∧ Aside0 (Below w.heap.size w wc))
        case first =>
          have H := HC79.out
          clear HC79
          by_cases c81 : x30_1 ≥ (x9_s12.length : Int)
          · rw [if_pos c81] at H
            have c81b0 : decide ((x9_s12.length : Int) ≤ x30_1) = true := decide_eq_true c81
            clear c81
            (first | rw [c81b0] | (simp only [i64_w, i32_w]; rw [c81b0]) | skip)
            exact (laws_FnJubileesCome.dead1 _ _ _ _ _ _ _ _ _ _ _ _ _ _ _ _ H).elim
          rw [if_neg c81] at H
          have c81b0 : decide ((x9_s12.length : Int) ≤ x30_1) = false := decide_eq_false c81
          clear c81
          (first | rw [c81b0] | (simp only [i64_w, i32_w]; rw [c81b0]) | skip)
          by_cases c82 : 0 ≤ x30_1
          rotate_left
          · rw [if_neg c82] at H
            exact absurd H (by simp)
          rw [if_pos c82] at H
          have c82b0 : decide (0 ≤ x30_1) = true := decide_eq_true c82
          clear c82
          by_cases c83 : x30_1 < (x9_s12.length : Int)
          rotate_left
          · rw [if_neg c83] at H
            exact absurd H (by simp)
          rw [if_pos c83] at H
          have c83b0 : decide (x30_1 < (x9_s12.length : Int)) = true := decide_eq_true c83
          clear c83
          by_cases c84 : ((rd_L2 x9_s12 x30_1).length : Int) = (wrap64 ((t473.length : Int) + 1))
          rotate_left
          · rw [if_neg c84] at H
            have c84b0 : (((rd_L2 x9_s12 x30_1).length : Int) == (wrap64 ((t473.length : Int) + 1))) = false := beq_eq_false_iff_ne.mpr c84
            have c84b1 : (((rd_L2 x9_s12 x30_1).length : Int) != (wrap64 ((t473.length : Int) + 1))) = true := bne_iff_ne.mpr c84
            exact (laws_FnJubileesCome.dead1 _ _ _ _ _ _ _ _ _ _ _ _ _ _ _ _ H).elim
          rw [if_pos c84] at H
          have c84b0 : (((rd_L2 x9_s12 x30_1).length : Int) == (wrap64 ((t473.length : Int) + 1))) = true := beq_iff_eq.mpr c84
          have c84b1 : (((rd_L2 x9_s12 x30_1).length : Int) != (wrap64 ((t473.length : Int) + 1))) = false := bne_eq_false_iff_eq.mpr c84
          clear c84
          by_cases c85 : 0 < ((rd_L2 x9_s12 x30_1).length : Int)
          rotate_left
          · rw [if_neg c85] at H
            exact absurd H (by simp)
          rw [if_pos c85] at H
          have c85b0 : decide (0 < ((rd_L2 x9_s12 x30_1).length : Int)) = true := decide_eq_true c85
          have c85b1 : decide (0 < (rd_L2 x9_s12 x30_1).length) = true := decide_eq_true (by omega)
          clear c85
          by_cases c86 : (rd (rd_L2 x9_s12 x30_1) 0) = x32_1
          rotate_left
          · rw [if_neg c86] at H
            have c86b0 : ((rd (rd_L2 x9_s12 x30_1) 0) == x32_1) = false := beq_eq_false_iff_ne.mpr c86
            have c86b1 : ((rd (rd_L2 x9_s12 x30_1) 0) != x32_1) = true := bne_iff_ne.mpr c86
            exact (laws_FnJubileesCome.dead1 _ _ _ _ _ _ _ _ _ _ _ _ _ _ _ _ H).elim
          rw [if_pos c86] at H
          have c86b0 : ((rd (rd_L2 x9_s12 x30_1) 0) == x32_1) = true := beq_iff_eq.mpr c86
          have c86b1 : ((rd (rd_L2 x9_s12 x30_1) 0) != x32_1) = false := bne_eq_false_iff_eq.mpr c86
          clear c86
          by_cases c87 : 1 ≤ ((rd_L2 x9_s12 x30_1).length : Int)
          rotate_left
          · rw [if_neg c87] at H
            exact absurd H (by simp)
          rw [if_pos c87] at H
          have c87b0 := eq_true c87
          have c87b1 : decide (1 ≤ ((rd_L2 x9_s12 x30_1).length : Int)) = true := decide_eq_true c87
          clear c87
          obtain ⟨y482, hy482⟩ : ∃ y_ : List Int, y_ = ((rd_L2 x9_s12 x30_1).drop 1) := ⟨_, rfl⟩
          replace H : ((laws_qSame.f kj61 y482 t473).bind fun t486 => (laws_FnJubileesCome.j7 kj61 l1 x5_s12 x6_s12 x7_s12 x8_s12 x9_s12 x13_s12 x17_s12 x18_s12 x23_s12 x24_s12 x25_s12 (wrap64 (x29_1 + (t473.length : Int))) x30_1 x32_1 (!t486))) = some true := by first | (rw [hy482]; with_reducible exact H) | (have H2_ := (Option.bind_some _ _).symm.trans H; rw [hy482]; with_reducible exact H2_) | (have H2_ := (Option.bind_some _ _).symm.trans H; with_reducible exact H2_) | with_reducible exact H | (rw [hy482]; exact H) | exact H
          have Ny482 := Aside0.mk hy482
          clear hy482
          replace H := Option.bind_eq_some_iff.mp H
          obtain ⟨t486, A880, H⟩ := H
          replace H : (laws_FnJubileesCome.j7 kj61 l1 x5_s12 x6_s12 x7_s12 x8_s12 x9_s12 x13_s12 x17_s12 x18_s12 x23_s12 x24_s12 x25_s12 (wrap64 (x29_1 + (t473.length : Int))) x30_1 x32_1 (!t486)) = some true := H
          have A88 := Aside0.mk A880
          clear A880
          have H' := Aside0.mk H
          clear H
          obtain ⟨Ao89, co89, eo89⟩ := Kd.S_slice HO_9.out
          subst eo89
          have p478 : 0 ≤ (x30_1 : Int) := of_decide_eq_true (by first | (with_reducible assumption) | assumption)
          have q478 : x30_1 < (x9_s12.length : Int) := of_decide_eq_true (by first | (with_reducible assumption) | assumption)
          obtain ⟨ad478, A478_0, c478_0, e478, hx478_0, hl478_0, hi478_0⟩ := at_L2 (Kd.S_reads' HO_9.out).2.2 x30_1 p478 q478
          cases e478
          obtain ⟨ce478, hce478, hMe478, hcc478⟩ := Kd.S_get HO_9.out [] x30_1 p478 (by first | exact q478 | exact of_decide_eq_true (by first | (with_reducible assumption) | assumption) | (have e_ := (Kd.S_reads' HO_9.out).1; omega))
          obtain ⟨ve478_0, rfl, ge478_0⟩ := hMe478
          have hv478_0 := hcc478 0 _ rfl
          rw [Nat.add_zero, show ((Kd.slice 3 (Kd.int .i64))).sz = 1 from rfl, Nat.mul_one] at hv478_0
          replace hv478_0 := Option.some.inj (hv478_0.symm.trans hx478_0)
          rw [hv478_0] at ge478_0
          have HL478_0 := Aside0.mk (show Kd.R (Kd.int .i64) 3 _ _ _ _ (rd_L2 x9_s12 x30_1) from ge478_0)
          clear hv478_0 ge478_0
          clear hcc478 hce478
          have HR478_0 := Aside0.mk hi478_0
          have HC478_0 := Aside0.mk hl478_0
          clear hi478_0 hl478_0
          replace p478 := eq_true p478
          replace q478 := eq_true q478
          have p479 : 0 ≤ (x30_1 : Int) := of_decide_eq_true (by first | (with_reducible assumption) | assumption)
          have q479 : x30_1 < (x9_s12.length : Int) := of_decide_eq_true (by first | (with_reducible assumption) | assumption)
          obtain ⟨ad479, A479_0, c479_0, e479, hx479_0, hl479_0, hi479_0⟩ := at_L2 (Kd.S_reads' HO_9.out).2.2 x30_1 p479 q479
          obtain rfl : ad478 = ad479 := (by injection e479)
          obtain ⟨ce479, hce479, hMe479, hcc479⟩ := Kd.S_get HO_9.out [] x30_1 p479 (by first | exact q479 | exact of_decide_eq_true (by first | (with_reducible assumption) | assumption) | (have e_ := (Kd.S_reads' HO_9.out).1; omega))
          obtain ⟨ve479_0, rfl, ge479_0⟩ := hMe479
          have hv479_0 := hcc479 0 _ rfl
          rw [Nat.add_zero, show ((Kd.slice 3 (Kd.int .i64))).sz = 1 from rfl, Nat.mul_one] at hv479_0
          replace hv479_0 := Option.some.inj (hv479_0.symm.trans hx479_0)
          rw [hv479_0] at ge479_0
          have HL479_0 := Aside0.mk (show Kd.R (Kd.int .i64) 3 _ _ _ _ (rd_L2 x9_s12 x30_1) from ge479_0)
          clear hv479_0 ge479_0
          clear hcc479 hce479
          have HR479_0 := Aside0.mk hi479_0
          have HC479_0 := Aside0.mk hl479_0
          clear hi479_0 hl479_0
          replace p479 := eq_true p479
          replace q479 := eq_true q479
          have ea_ := Option.some.inj (hx478_0.symm.trans hx479_0)
          injection ea_ with ea_ en_ ec_
          subst ea_
          subst ec_
          clear en_
          have p480 : 0 ≤ (0 : Int) := (by omega)
          have q480 : 0 < ((rd_L2 x9_s12 x30_1).length : Int) := of_decide_eq_true (by first | (with_reducible assumption) | assumption)
          obtain ⟨ad480, e480, hx480_0⟩ := Kd.at_int (by repeat (first | (with_reducible exact HR479_0.out) | (with_reducible refine Kd.C_alloc ?_ _) | (with_reducible refine Kd.C_drewN ?_ _) | (with_reducible refine Kd.C_drew ?_) | exact HR479_0.out)) 0 p480 q480
          cases e480
          have qi480 : (0 < (rd_L2 x9_s12 x30_1).length) = True := eq_true (by omega)
          (try rw [show ((0 : Int)).toNat = 0 from rfl] at hx480_0)
          (try rw [Addr.add_zero'] at hx480_0)
          replace p480 := eq_true p480
          replace q480 := eq_true q480
          have p481 : 0 ≤ (x30_1 : Int) := of_decide_eq_true (by first | (with_reducible assumption) | assumption)
          have q481 : x30_1 < (x9_s12.length : Int) := of_decide_eq_true (by first | (with_reducible assumption) | assumption)
          obtain ⟨ad481, A481_0, c481_0, e481, hx481_0, hl481_0, hi481_0⟩ := at_L2 (Kd.S_reads' HO_9.out).2.2 x30_1 p481 q481
          obtain rfl : ad478 = ad481 := (by injection e481)
          obtain ⟨ce481, hce481, hMe481, hcc481⟩ := Kd.S_get HO_9.out [] x30_1 p481 (by first | exact q481 | exact of_decide_eq_true (by first | (with_reducible assumption) | assumption) | (have e_ := (Kd.S_reads' HO_9.out).1; omega))
          obtain ⟨ve481_0, rfl, ge481_0⟩ := hMe481
          have hv481_0 := hcc481 0 _ rfl
          rw [Nat.add_zero, show ((Kd.slice 3 (Kd.int .i64))).sz = 1 from rfl, Nat.mul_one] at hv481_0
          replace hv481_0 := Option.some.inj (hv481_0.symm.trans hx481_0)
          rw [hv481_0] at ge481_0
          have HL481_0 := Aside0.mk (show Kd.R (Kd.int .i64) 3 _ _ _ _ (rd_L2 x9_s12 x30_1) from ge481_0)
          clear hv481_0 ge481_0
          clear hcc481 hce481
          have HR481_0 := Aside0.mk hi481_0
          have HC481_0 := Aside0.mk hl481_0
          clear hi481_0 hl481_0
          replace p481 := eq_true p481
          replace q481 := eq_true q481
          have ea_ := Option.some.inj (hx478_0.symm.trans hx481_0)
          injection ea_ with ea_ en_ ec_
          subst ea_
          subst ec_
          clear en_
          have q90 : (1 : Int) ≤ (((rd_L2 x9_s12 x30_1).length : Int) : Int) := of_decide_eq_true (by first | (with_reducible assumption) | assumption)
          obtain ⟨i090, hi090, _, hsz90, _⟩ := info_parts info3
          have hroom90 : (rd_L2 x9_s12 x30_1).length ≤ c478_0 := HC481_0.out
          have hC90 : Kd.C (Kd.int .i64) _ (some ad480) (rd_L2 x9_s12 x30_1).length (rd_L2 x9_s12 x30_1) := (by repeat (first | (with_reducible exact HR481_0.out) | (with_reducible refine Kd.C_alloc ?_ _) | (with_reducible refine Kd.C_drewN ?_ _) | (with_reducible refine Kd.C_drew ?_) | exact HR481_0.out))
          have hcut90 := cut_from (P := Try.prog) 24 3 .i64 Try.underlying24 hi090 1 hsz90 (some ad480) (rd_L2 x9_s12 x30_1).length c478_0 1 (by omega) q90
          have hr90 := Kd.C_drop (m := (1 : Int).toNat) (c := c478_0) hC90 (by omega) hroom90
          obtain ⟨A90, hA90⟩ : ∃ A1, A1 = (if c478_0 = (1 : Int).toNat then (some ad480) else ((some ad480) : Option Addr).map (·.add ((1 : Int).toNat * 1))) := ⟨_, rfl⟩
          obtain ⟨c90, hc90⟩ : ∃ c1, c1 = c478_0 - (1 : Int).toNat := ⟨_, rfl⟩
          have hy90 : y482.length = (rd_L2 x9_s12 x30_1).length - (1 : Int).toNat := (by rw [Ny482.out, List.length_drop] <;> omega)
          rw [show (rd_L2 x9_s12 x30_1).drop (1 : Int).toNat = y482 from Ny482.out.symm] at hr90
          replace hr90 : Kd.C (Kd.int .i64) _ A90 y482.length y482 := (by rw [hA90]; exact hr90)
          rw [← hy90, ← hA90, ← hc90] at hcut90
          have HR485 := Aside0.mk hr90
          have HC485 := Aside0.mk (show y482.length ≤ c90 from by rw [hy90, hc90]; exact Nat.sub_le_sub_right hroom90 _)
          clear hr90 hC90 hroom90 hi090 hsz90 hc90
          have KY90 := Aside0.mk hy90
          have KA90 := Aside0.mk hA90
          clear hy90 hA90
          replace q90 := eq_true q90
          as_aux_lemma =>
            go_wp2_with (first | (go_at_call 19; (with_reducible refine (laws_qSame.calls kj61 _ _ y482 _ _ t473 t486 _ ?side1 ?side2 ?side3 ?side4 A88.out).mono ?_); (case side1 => repeat (first | exact (by repeat (first | (with_reducible exact HR485.out) | (with_reducible refine Kd.C_alloc ?_ _) | (with_reducible refine Kd.C_drewN ?_ _) | (with_reducible refine Kd.C_drew ?_) | exact HR485.out)) | (with_reducible refine Kd.C_alloc ?_ _) | (with_reducible refine Kd.C_drewN ?_ _) | (with_reducible refine Kd.C_drew ?_))); (case side2 => exact HC485.out); (case side3 => repeat (first | exact (Kd.R_reads' HO_33.out).2.2 | (with_reducible refine Kd.C_alloc ?_ _) | (with_reducible refine Kd.C_drewN ?_ _) | (with_reducible refine Kd.C_drew ?_))); (case side4 => exact (Kd.R_reads' HO_33.out).2.1); rintro e w' ⟨rfl, ⟨nd, rfl⟩⟩))
            go_meet
            case rel => exact ⟨_, (!t486), (by first | rfl | (simp; done) | (simp [*]; done)), H', ⟨by have := HK1.out; have := HJ61.out; first | omega | exact Nat.le_refl _⟩, ⟨by (with_reducible repeat (first | apply Kd.R_alloc | apply Kd.R_drewN | apply Kd.R_drew)); exact Kd.R_mono HO_5.out (fun _ hk => trivial)⟩, ⟨by (with_reducible repeat (first | apply Kd.S_alloc | apply Kd.S_drewN | apply Kd.S_drew)); exact Kd.S_mono HO_9.out (fun _ hk => hk.1)⟩, ⟨by repeat (first | (with_reducible first | exact HB.out | apply below_alloc | apply pw_below_drewN | apply below_drew1) | exact HB.out)⟩⟩
        clear HC79
        try clear c77; try clear c78b0; try clear c78b1
        obtain ⟨kq, x341_78, rfl, HA, HJ78, HO_5, HO_9, HB⟩ := hcut
        rcases kq with _ | kj78
        · exact absurd HA.out (by simp [laws_FnJubileesCome.j7])
        have H := HA.out
        clear HA
        simp only [laws_FnJubileesCome.j7] at H
        by_cases c91 : x341_78 = true
        · subst c91
          have H1 : (some false) = some true := by rw [if_pos rfl] at H; first | done | exact H
          clear H
          have H := H1
          clear H1
          exact absurd H (by simp)
        replace c91 := Bool.eq_false_iff.mpr c91
        subst c91
        have H1 : (if 0 > x24_s12 then (some false) else (if 0 = x24_s12 then (if 0 > 0 then (if (wrap64 ((wrap64 (x32_1)) + 1)) < x23_s12 then (some false) else (laws_FnJubileesCome.l0 kj78 l1 x5_s12 x6_s12 x7_s12 x8_s12 x9_s12 x13_s12 x17_s12 x18_s12 x23_s12 x24_s12 x25_s12 (wrap64 (x29_1 + (t473.length : Int))) (wrap64 (x30_1 + 1)) 0 (wrap64 (x32_1 + 1)))) else (laws_FnJubileesCome.l0 kj78 l1 x5_s12 x6_s12 x7_s12 x8_s12 x9_s12 x13_s12 x17_s12 x18_s12 x23_s12 x24_s12 x25_s12 (wrap64 (x29_1 + (t473.length : Int))) (wrap64 (x30_1 + 1)) 0 (wrap64 (x32_1 + 1)))) else (laws_FnJubileesCome.l0 kj78 l1 x5_s12 x6_s12 x7_s12 x8_s12 x9_s12 x13_s12 x17_s12 x18_s12 x23_s12 x24_s12 x25_s12 (wrap64 (x29_1 + (t473.length : Int))) (wrap64 (x30_1 + 1)) 0 (wrap64 (x32_1 + 1))))) = some true := by rw [if_neg (show ¬ (false = true) by decide)] at H; first | done | exact H
        clear H
        have H := H1
        clear H1
        by_cases c92 : 0 > x24_s12
        · rw [if_pos c92] at H
          have c92b0 : decide (x24_s12 < 0) = true := decide_eq_true c92
          clear c92
          exact absurd H (by simp)
        rw [if_neg c92] at H
        have c92b0 : decide (x24_s12 < 0) = false := decide_eq_false c92
        clear c92
        by_cases c93 : 0 = x24_s12
        rotate_left
        · rw [if_neg c93] at H
          have c93b0 : (0 == x24_s12) = false := beq_eq_false_iff_ne.mpr c93
          have c93b1 : (0 != x24_s12) = true := bne_iff_ne.mpr c93
          have H' := Aside0.mk H
          clear H
          as_aux_lemma =>
            go_wp2
            go_roundg kj78
            case measure => have := HK1.out; have := HJ61.out; have := HJ78.out; omega
            case rel => exact ⟨((wrap64 (x29_1 + (t473.length : Int)))), (wrap64 (x30_1 + 1)), (0), (wrap64 (x32_1 + 1)), (by first | rfl | (simp; done) | (simp [*]; done)), (by first | rfl | (simp; done) | (simp [*]; done)), (by first | rfl | (simp; done) | (simp [*]; done)), (by first | rfl | (simp; done) | (simp [*]; done)), H', ⟨by have := HK1.out; have := HJ61.out; have := HJ78.out; omega⟩, ⟨by (with_reducible repeat (first | apply Kd.R_alloc | apply Kd.R_drewN | apply Kd.R_drew)); exact HO_5.out⟩, ⟨by (with_reducible repeat (first | apply Kd.S_alloc | apply Kd.S_drewN | apply Kd.S_drew)); exact HO_9.out⟩, ⟨by repeat (first | (with_reducible first | exact HB.out | apply below_alloc | apply pw_below_drewN | apply below_drew1) | exact HB.out)⟩⟩
        rw [if_pos c93] at H
        have c93b0 : (0 == x24_s12) = true := beq_iff_eq.mpr c93
        have c93b1 : (0 != x24_s12) = false := bne_eq_false_iff_eq.mpr c93
        clear c93
        by_cases c94 : 0 > 0
        rotate_left
        · rw [if_neg c94] at H
          have c94b0 : decide (0 < 0) = false := decide_eq_false c94
          clear c94
          have H' := Aside0.mk H
          clear H
          as_aux_lemma =>
            go_wp2
            go_roundg kj78
            case measure => have := HK1.out; have := HJ61.out; have := HJ78.out; omega
            case rel => exact ⟨((wrap64 (x29_1 + (t473.length : Int)))), (wrap64 (x30_1 + 1)), (0), (wrap64 (x32_1 + 1)), (by first | rfl | (simp; done) | (simp [*]; done)), (by first | rfl | (simp; done) | (simp [*]; done)), (by first | rfl | (simp; done) | (simp [*]; done)), (by first | rfl | (simp; done) | (simp [*]; done)), H', ⟨by have := HK1.out; have := HJ61.out; have := HJ78.out; omega⟩, ⟨by (with_reducible repeat (first | apply Kd.R_alloc | apply Kd.R_drewN | apply Kd.R_drew)); exact HO_5.out⟩, ⟨by (with_reducible repeat (first | apply Kd.S_alloc | apply Kd.S_drewN | apply Kd.S_drew)); exact HO_9.out⟩, ⟨by repeat (first | (with_reducible first | exact HB.out | apply below_alloc | apply pw_below_drewN | apply below_drew1) | exact HB.out)⟩⟩
        rw [if_pos c94] at H
        have c94b0 : decide (0 < 0) = true := decide_eq_true c94
        clear c94
        by_cases c95 : (wrap64 ((wrap64 (x32_1)) + 1)) < x23_s12
        · rw [if_pos c95] at H
          have c95b0 : decide ((wrap64 ((wrap64 (x32_1)) + 1)) < x23_s12) = true := decide_eq_true c95
          clear c95
          exact absurd H (by simp)
        rw [if_neg c95] at H
        have c95b0 : decide ((wrap64 ((wrap64 (x32_1)) + 1)) < x23_s12) = false := decide_eq_false c95
        clear c95
        have H' := Aside0.mk H
        clear H
        as_aux_lemma =>
          go_wp2
          go_roundg kj78
          case measure => have := HK1.out; have := HJ61.out; have := HJ78.out; omega
          case rel => exact ⟨((wrap64 (x29_1 + (t473.length : Int)))), (wrap64 (x30_1 + 1)), (0), (wrap64 (x32_1 + 1)), (by first | rfl | (simp; done) | (simp [*]; done)), (by first | rfl | (simp; done) | (simp [*]; done)), (by first | rfl | (simp; done) | (simp [*]; done)), (by first | rfl | (simp; done) | (simp [*]; done)), H', ⟨by have := HK1.out; have := HJ61.out; have := HJ78.out; omega⟩, ⟨by (with_reducible repeat (first | apply Kd.R_alloc | apply Kd.R_drewN | apply Kd.R_drew)); exact HO_5.out⟩, ⟨by (with_reducible repeat (first | apply Kd.S_alloc | apply Kd.S_drewN | apply Kd.S_drew)); exact HO_9.out⟩, ⟨by repeat (first | (with_reducible first | exact HB.out | apply below_alloc | apply pw_below_drewN | apply below_drew1) | exact HB.out)⟩⟩

end Go.Proofs.Ytiacjmaofdimgaa.PFnJubileesCome
