-- written by the print program turned for this claim
import Derived.Test.YtiacjmaofdimgaaPFnJubileesComex0
import Derived.Test.YtiacjmaofdimgaaPFnJubileesComex5
import Derived.Test.YtiacjmaofdimgaaPFnJubileesComex8
import Derived.Test.YtiacjmaofdimgaaPFnJubileesComex9
namespace Go.Proofs.Ytiacjmaofdimgaa.PFnJubileesCome
open Go.RowKit Go.Proofs.YtiacjmaofdimgaaW.PrintWords Go.Proofs.YtiacjmaofdimgaaW.PrintLast Go.Proofs.YtiacjmaofdimgaaW.PrintMore
attribute [local go_sem] max2_int min2_int max_two min_two max_three min_three max_four min_four   -- for this text's walks alone
set_option linter.unusedVariables false
set_option linter.unusedSimpArgs false

noncomputable def laws_FnJubileesCome.code28 (R : Code) : Code := withTail 1 (dropSeq 28 (Try.f3.body.getD .skip)) R
set_option maxHeartbeats 40000000 in
set_option maxRecDepth 100000 in
theorem laws_FnJubileesCome.st28 (A0 : Option Addr) (c0 : Nat) (l0 : List Int) (A1 : Option Addr) (c1 : Nat) (l1 : List Int) (w : World) (hr0 : Kd.C (Kd.int .u8) w A0 l0.length l0) (hc0 : l0.length ≤ c0) (hr1 : Kd.C (Kd.int .u8) w A1 l1.length l1) (hc1 : l1.length ≤ c1) (R : Code) (hR : ∀ (a' : Act) (wc : World), laws_FnJubileesCome.pre29 A0 c0 l0 A1 c1 l1 w a' wc → Code.wp Try.prog R (bodyPost Try.prog Try.f3 (fun e w' => e = .returned (.bool true) ∧ Below w.heap.size w w')) a' wc) (a' : Act) (wc : World) (hP : laws_FnJubileesCome.pre28 A0 c0 l0 A1 c1 l1 w a' wc) :
    Code.wp Try.prog (laws_FnJubileesCome.code28 R) (bodyPost Try.prog Try.f3 (fun e w' => e = .returned (.bool true) ∧ Below w.heap.size w w')) a' wc := by
  have HR0 := Aside0.mk hr0
  have HC0 := Aside0.mk hc0
  clear hr0 hc0
  have HR1 := Aside0.mk hr1
  have HC1 := Aside0.mk hc1
  clear hr1 hc1
  unfold laws_FnJubileesCome.pre28 at hP
  obtain ⟨kq, x38_s28, x39_s28, x40_s28, x41_s28, x42_s28, x45_s28, x49_s28, x50_s28, x51_s28, x55_s28, x56_s28, x57_s28, x58_s28, x61_s28, x62_s28, x63_s28, x64_s28, x65_s28, x66_s28, u38, u45, u55, u57, u65, ⟨hlen, hdef⟩, hq38, hq39, hq40, hq41, hq42, hq45, hq49, hq50, hq51, hq55, hq56, hq57, hq58, hq61, hq62, hq63, hq64, hq65, hq66, HA, HO_38, HO_45, HO_55, HO_57, HO_65, HB⟩ := hP
  obtain ⟨uf, rfl⟩ := laws_FnJubileesCome.frame a' hlen hdef
  clear hlen hdef
  have he38 : uf 38 = u38 := hq38
  clear hq38
  have he39 : uf 39 = .int .i64 x39_s28 := hq39
  clear hq39
  have he40 : uf 40 = .int .i64 x40_s28 := hq40
  clear hq40
  have he41 : uf 41 = .int .i64 x41_s28 := hq41
  clear hq41
  have he42 : uf 42 = .bool x42_s28 := hq42
  clear hq42
  have he45 : uf 45 = u45 := hq45
  clear hq45
  have he49 : uf 49 = .int .i64 x49_s28 := hq49
  clear hq49
  have he50 : uf 50 = .int .i64 x50_s28 := hq50
  clear hq50
  have he51 : uf 51 = .bool x51_s28 := hq51
  clear hq51
  have he55 : uf 55 = u55 := hq55
  clear hq55
  have he56 : uf 56 = .int .i64 x56_s28 := hq56
  clear hq56
  have he57 : uf 57 = u57 := hq57
  clear hq57
  have he58 : uf 58 = .bool x58_s28 := hq58
  clear hq58
  have he61 : uf 61 = .int .i64 x61_s28 := hq61
  clear hq61
  have he62 : uf 62 = .int .i64 x62_s28 := hq62
  clear hq62
  have he63 : uf 63 = .int .i64 x63_s28 := hq63
  clear hq63
  have he64 : uf 64 = .int .i64 x64_s28 := hq64
  clear hq64
  have he65 : uf 65 = u65 := hq65
  clear hq65
  have he66 : uf 66 = .bool x66_s28 := hq66
  clear hq66
  simp only [he38, he39, he40, he41, he42, he45, he49, he50, he51, he55, he56, he57, he58, he61, he62, he63, he64, he65, he66]
  clear he38 he39 he40 he41 he42 he45 he49 he50 he51 he55 he56 he57 he58 he61 he62 he63 he64 he65 he66
  dsimp only [laws_FnJubileesCome.code28, withTail, dropSeq, Try.f3, Option.getD]
  rcases kq with _ | kj_s28
  · exact absurd HA.out (by simp [laws_FnJubileesCome.j18])
  have H := HA.out
  clear HA
  simp only [laws_FnJubileesCome.j18] at H
  by_cases c200 : x42_s28 = true
  rotate_left
  · replace c200 := Bool.eq_false_iff.mpr c200
    subst c200
    have H1 : (laws_FnJubileesCome.j21 kj_s28 x38_s28 x39_s28 x45_s28 x49_s28 x50_s28 x51_s28 x55_s28 x56_s28 x57_s28 x58_s28 x61_s28 x62_s28 x63_s28 x64_s28 x65_s28 x66_s28) = some true := by rw [if_neg (show ¬ (false = true) by decide)] at H; first | done | exact H
    clear H
    have H := H1
    clear H1
    have H' := Aside0.mk H
    clear H
    go_wp2
    refine hR _ _ ?_
    unfold laws_FnJubileesCome.pre29
    exact ⟨_, (x38_s28), (x39_s28), (x45_s28), (x49_s28), (x50_s28), (x51_s28), (x55_s28), (x56_s28), (x57_s28), (x58_s28), (x61_s28), (x62_s28), (x63_s28), (x64_s28), (x65_s28), (x66_s28), (u38), (u45), (u55), (u57), (u65), ⟨rfl, rfl⟩, (by first | rfl | (show _ = _; simp [nthV]; done) | (simp [nthV, *]; done)), (by first | rfl | (show _ = _; simp [nthV]; done) | (simp [nthV, *]; done)), (by first | rfl | (show _ = _; simp [nthV]; done) | (simp [nthV, *]; done)), (by first | rfl | (show _ = _; simp [nthV]; done) | (simp [nthV, *]; done)), (by first | rfl | (show _ = _; simp [nthV]; done) | (simp [nthV, *]; done)), (by first | rfl | (show _ = _; simp [nthV]; done) | (simp [nthV, *]; done)), (by first | rfl | (show _ = _; simp [nthV]; done) | (simp [nthV, *]; done)), (by first | rfl | (show _ = _; simp [nthV]; done) | (simp [nthV, *]; done)), (by first | rfl | (show _ = _; simp [nthV]; done) | (simp [nthV, *]; done)), (by first | rfl | (show _ = _; simp [nthV]; done) | (simp [nthV, *]; done)), (by first | rfl | (show _ = _; simp [nthV]; done) | (simp [nthV, *]; done)), (by first | rfl | (show _ = _; simp [nthV]; done) | (simp [nthV, *]; done)), (by first | rfl | (show _ = _; simp [nthV]; done) | (simp [nthV, *]; done)), (by first | rfl | (show _ = _; simp [nthV]; done) | (simp [nthV, *]; done)), (by first | rfl | (show _ = _; simp [nthV]; done) | (simp [nthV, *]; done)), (by first | rfl | (show _ = _; simp [nthV]; done) | (simp [nthV, *]; done)), H', ⟨by (with_reducible repeat (first | apply Kd.R_alloc | apply Kd.R_drewN | apply Kd.R_drew)); exact HO_38.out⟩, ⟨by (with_reducible repeat (first | apply Kd.R_alloc | apply Kd.R_drewN | apply Kd.R_drew)); exact HO_45.out⟩, ⟨by (with_reducible repeat (first | apply Kd.R_alloc | apply Kd.R_drewN | apply Kd.R_drew)); exact HO_55.out⟩, ⟨by (with_reducible repeat (first | apply Kd.R_alloc | apply Kd.R_drewN | apply Kd.R_drew)); exact HO_57.out⟩, ⟨by (with_reducible repeat (first | apply Kd.R_alloc | apply Kd.R_drewN | apply Kd.R_drew)); exact HO_65.out⟩, ⟨by repeat (first | (with_reducible first | exact HB.out | apply below_alloc | apply pw_below_drewN | apply below_drew1) | exact HB.out)⟩⟩
  subst c200
  have H1 : (if x41_s28 ≤ x39_s28 then (some false) else (laws_FnJubileesCome.l3 kj_s28 x38_s28 x39_s28 x40_s28 x41_s28 x45_s28 x49_s28 x50_s28 x51_s28 x55_s28 x56_s28 x57_s28 x58_s28 x61_s28 x62_s28 x63_s28 x64_s28 x65_s28 x66_s28 (wrap64 (x39_s28 + 1)))) = some true := by rw [if_pos rfl] at H; first | done | exact H
  clear H
  have H := H1
  clear H1
  by_cases c201 : x41_s28 ≤ x39_s28
  · rw [if_pos c201] at H
    have c201b0 : decide (x41_s28 ≤ x39_s28) = true := decide_eq_true c201
    clear c201
    exact absurd H (by simp)
  rw [if_neg c201] at H
  have c201b0 : decide (x41_s28 ≤ x39_s28) = false := decide_eq_false c201
  clear c201
  have H' := Aside0.mk H
  clear H
  go_wp2
  go_loopg [72] kj_s28 (fun kq v72 w' => ∃ (x72_1 : Int), v72 = .int .i64 x72_1 ∧ Aside0 (laws_FnJubileesCome.l3 kq x38_s28 x39_s28 x40_s28 x41_s28 x45_s28 x49_s28 x50_s28 x51_s28 x55_s28 x56_s28 x57_s28 x58_s28 x61_s28 x62_s28 x63_s28 x64_s28 x65_s28 x66_s28 x72_1 = some true) ∧ Aside0 (kq ≤ kj_s28) ∧ Aside0 (Kd.R (Kd.int .i64) 3 w' w.heap.size (fun k_ => some k_ ≠ (u45 : Value).ownBlock ∧ some k_ ≠ (u55 : Value).ownBlock ∧ some k_ ≠ (u57 : Value).ownBlock ∧ some k_ ≠ (u65 : Value).ownBlock) u38 x38_s28) ∧ Aside0 (Kd.R (Kd.int .i64) 3 w' w.heap.size (fun k_ => some k_ ≠ (u38 : Value).ownBlock ∧ some k_ ≠ (u55 : Value).ownBlock ∧ some k_ ≠ (u57 : Value).ownBlock ∧ some k_ ≠ (u65 : Value).ownBlock) u45 x45_s28) ∧ Aside0 (Kd.R (Kd.int .i64) 3 w' w.heap.size (fun k_ => some k_ ≠ (u38 : Value).ownBlock ∧ some k_ ≠ (u45 : Value).ownBlock ∧ some k_ ≠ (u57 : Value).ownBlock ∧ some k_ ≠ (u65 : Value).ownBlock) u55 x55_s28) ∧ Aside0 (Kd.R (Kd.int .i64) 3 w' w.heap.size (fun k_ => some k_ ≠ (u38 : Value).ownBlock ∧ some k_ ≠ (u45 : Value).ownBlock ∧ some k_ ≠ (u55 : Value).ownBlock ∧ some k_ ≠ (u65 : Value).ownBlock) u57 x57_s28) ∧ Aside0 (Kd.R (Kd.int .i64) 3 w' w.heap.size (fun k_ => some k_ ≠ (u38 : Value).ownBlock ∧ some k_ ≠ (u45 : Value).ownBlock ∧ some k_ ≠ (u55 : Value).ownBlock ∧ some k_ ≠ (u57 : Value).ownBlock) u65 x65_s28) ∧ Aside0 (Below w.heap.size w w'))
  case atStart => exact ⟨(wrap64 (x39_s28 + 1)), (by first | rfl | (simp; done) | (simp [*]; done)), H', ⟨Nat.le_refl _⟩, ⟨by (with_reducible repeat (first | apply Kd.R_alloc | apply Kd.R_drewN | apply Kd.R_drew)); exact HO_38.out⟩, ⟨by (with_reducible repeat (first | apply Kd.R_alloc | apply Kd.R_drewN | apply Kd.R_drew)); exact HO_45.out⟩, ⟨by (with_reducible repeat (first | apply Kd.R_alloc | apply Kd.R_drewN | apply Kd.R_drew)); exact HO_55.out⟩, ⟨by (with_reducible repeat (first | apply Kd.R_alloc | apply Kd.R_drewN | apply Kd.R_drew)); exact HO_57.out⟩, ⟨by (with_reducible repeat (first | apply Kd.R_alloc | apply Kd.R_drewN | apply Kd.R_drew)); exact HO_65.out⟩, ⟨by repeat (first | (with_reducible first | exact HB.out | apply below_alloc | apply pw_below_drewN | apply below_drew1) | exact HB.out)⟩⟩
  clear H'
  try clear c200; try clear c201b0
  obtain ⟨x72_1, rfl, HA, HK1, HO_38, HO_45, HO_55, HO_57, HO_65, HB⟩ := hrel
  rcases gk with _ | k1
  · exact absurd HA.out (by simp [laws_FnJubileesCome.l3])
  have H := HA.out
  clear HA
  simp only [laws_FnJubileesCome.l3] at H
  have HC202 := Aside0.mk H
  clear H
  go_upto_region 67 with (fail)
  go_cut [611] from 90000 to 90001 (fun v611 wc => ∃ (kq : Nat) (x611_201 : Bool), v611 = .bool x611_201 ∧ Aside0 (laws_FnJubileesCome.j20 kq x38_s28 x39_s28 x40_s28 x41_s28 x45_s28 x49_s28 x50_s28 x51_s28 x55_s28 x56_s28 x57_s28 x58_s28 x61_s28 x62_s28 x63_s28 x64_s28 x65_s28 x66_s28 x72_1 x611_201 = some true) ∧ Aside0 (kq ≤ k1) ∧ Aside0 (Kd.R (Kd.int .i64) 3 wc w.heap.size (fun k_ => some k_ ≠ (u45 : Value).ownBlock ∧ some k_ ≠ (u55 : Value).ownBlock ∧ some k_ ≠ (u57 : Value).ownBlock ∧ some k_ ≠ (u65 : Value).ownBlock) u38 x38_s28) ∧ Aside0 (Kd.R (Kd.int .i64) 3 wc w.heap.size (fun k_ => some k_ ≠ (u38 : Value).ownBlock ∧ some k_ ≠ (u55 : Value).ownBlock ∧ some k_ ≠ (u57 : Value).ownBlock ∧ some k_ ≠ (u65 : Value).ownBlock) u45 x45_s28) ∧ Aside0 (Kd.R (Kd.int .i64) 3 wc w.heap.size (fun k_ => some k_ ≠ (u38 : Value).ownBlock ∧ some k_ ≠ (u45 : Value).ownBlock ∧ some k_ ≠ (u57 : Value).ownBlock ∧ some k_ ≠ (u65 : Value).ownBlock) u55 x55_s28) ∧ Aside0 (Kd.R (Kd.int .i64) 3 wc w.heap.size (fun k_ => some k_ ≠ (u38 : Value).ownBlock ∧ some k_ ≠ (u45 : Value).ownBlock ∧ some k_ ≠ (u55 : Value).ownBlock ∧ some k_ ≠ (u65 : Value).ownBlock) u57 x57_s28) ∧ Aside0 (Kd.R (Kd.int .i64) 3 wc w.heap.size (fun k_ => some k_ ≠ (u38 : Value).ownBlock ∧ some k_ ≠ (u45 : Value).ownBlock ∧ some k_ ≠ (u55 : Value).ownBlock ∧ some k_ ≠ (u57 : Value).ownBlock) u65 x65_s28) ∧ Aside0 (Below w.heap.size w wc))
  case first =>
    have H := HC202.out
    clear HC202
    by_cases c203 : x72_1 ≤ x41_s28
    rotate_left
    · rw [if_neg c203] at H
      have c203b0 : decide (x72_1 ≤ x41_s28) = false := decide_eq_false c203
      clear c203
      (first | rw [c203b0] | (simp only [i64_w, i32_w]; rw [c203b0]) | skip)
      have H' := Aside0.mk H
      clear H
      go_wp2
      go_meet
      case rel => exact ⟨_, (false), (by first | rfl | (simp; done) | (simp [*]; done)), H', ⟨by have := HK1.out; first | omega | exact Nat.le_refl _⟩, ⟨by (with_reducible repeat (first | apply Kd.R_alloc | apply Kd.R_drewN | apply Kd.R_drew)); exact HO_38.out⟩, ⟨by (with_reducible repeat (first | apply Kd.R_alloc | apply Kd.R_drewN | apply Kd.R_drew)); exact HO_45.out⟩, ⟨by (with_reducible repeat (first | apply Kd.R_alloc | apply Kd.R_drewN | apply Kd.R_drew)); exact HO_55.out⟩, ⟨by (with_reducible repeat (first | apply Kd.R_alloc | apply Kd.R_drewN | apply Kd.R_drew)); exact HO_57.out⟩, ⟨by (with_reducible repeat (first | apply Kd.R_alloc | apply Kd.R_drewN | apply Kd.R_drew)); exact HO_65.out⟩, ⟨by repeat (first | (with_reducible first | exact HB.out | apply below_alloc | apply pw_below_drewN | apply below_drew1) | exact HB.out)⟩⟩
    rw [if_pos c203] at H
    have c203b0 : decide (x72_1 ≤ x41_s28) = true := decide_eq_true c203
    clear c203
    (first | rw [c203b0] | (simp only [i64_w, i32_w]; rw [c203b0]) | skip)
    have H' := Aside0.mk H
    clear H
    go_wp2
    go_meet
    case rel => exact ⟨_, (decide (x72_1 < (wrap64 (x39_s28 + 60)))), (by first | rfl | (simp; done) | (simp [*]; done)), H', ⟨by have := HK1.out; first | omega | exact Nat.le_refl _⟩, ⟨by (with_reducible repeat (first | apply Kd.R_alloc | apply Kd.R_drewN | apply Kd.R_drew)); exact HO_38.out⟩, ⟨by (with_reducible repeat (first | apply Kd.R_alloc | apply Kd.R_drewN | apply Kd.R_drew)); exact HO_45.out⟩, ⟨by (with_reducible repeat (first | apply Kd.R_alloc | apply Kd.R_drewN | apply Kd.R_drew)); exact HO_55.out⟩, ⟨by (with_reducible repeat (first | apply Kd.R_alloc | apply Kd.R_drewN | apply Kd.R_drew)); exact HO_57.out⟩, ⟨by (with_reducible repeat (first | apply Kd.R_alloc | apply Kd.R_drewN | apply Kd.R_drew)); exact HO_65.out⟩, ⟨by repeat (first | (with_reducible first | exact HB.out | apply below_alloc | apply pw_below_drewN | apply below_drew1) | exact HB.out)⟩⟩
  clear HC202
  obtain ⟨kq, x611_201, rfl, HA, HJ201, HO_38, HO_45, HO_55, HO_57, HO_65, HB⟩ := hcut
  rcases kq with _ | kj201
  · exact absurd HA.out (by simp [laws_FnJubileesCome.j20])
  have H := HA.out
  clear HA
  simp only [laws_FnJubileesCome.j20] at H
  by_cases c204 : x611_201 = true
  rotate_left
  · replace c204 := Bool.eq_false_iff.mpr c204
    subst c204
    have H1 : (laws_FnJubileesCome.j21 kj201 x38_s28 x39_s28 x45_s28 x49_s28 x50_s28 x51_s28 x55_s28 x56_s28 x57_s28 x58_s28 x61_s28 x62_s28 x63_s28 x64_s28 x65_s28 x66_s28) = some true := by rw [if_neg (show ¬ (false = true) by decide)] at H; first | done | exact H
    clear H
    have H := H1
    clear H1
    have H' := Aside0.mk H
    clear H
    go_wp2
    refine hR _ _ ?_
    unfold laws_FnJubileesCome.pre29
    exact ⟨_, (x38_s28), (x39_s28), (x45_s28), (x49_s28), (x50_s28), (x51_s28), (x55_s28), (x56_s28), (x57_s28), (x58_s28), (x61_s28), (x62_s28), (x63_s28), (x64_s28), (x65_s28), (x66_s28), (u38), (u45), (u55), (u57), (u65), ⟨rfl, rfl⟩, (by first | rfl | (show _ = _; simp [nthV]; done) | (simp [nthV, *]; done)), (by first | rfl | (show _ = _; simp [nthV]; done) | (simp [nthV, *]; done)), (by first | rfl | (show _ = _; simp [nthV]; done) | (simp [nthV, *]; done)), (by first | rfl | (show _ = _; simp [nthV]; done) | (simp [nthV, *]; done)), (by first | rfl | (show _ = _; simp [nthV]; done) | (simp [nthV, *]; done)), (by first | rfl | (show _ = _; simp [nthV]; done) | (simp [nthV, *]; done)), (by first | rfl | (show _ = _; simp [nthV]; done) | (simp [nthV, *]; done)), (by first | rfl | (show _ = _; simp [nthV]; done) | (simp [nthV, *]; done)), (by first | rfl | (show _ = _; simp [nthV]; done) | (simp [nthV, *]; done)), (by first | rfl | (show _ = _; simp [nthV]; done) | (simp [nthV, *]; done)), (by first | rfl | (show _ = _; simp [nthV]; done) | (simp [nthV, *]; done)), (by first | rfl | (show _ = _; simp [nthV]; done) | (simp [nthV, *]; done)), (by first | rfl | (show _ = _; simp [nthV]; done) | (simp [nthV, *]; done)), (by first | rfl | (show _ = _; simp [nthV]; done) | (simp [nthV, *]; done)), (by first | rfl | (show _ = _; simp [nthV]; done) | (simp [nthV, *]; done)), (by first | rfl | (show _ = _; simp [nthV]; done) | (simp [nthV, *]; done)), H', ⟨by (with_reducible repeat (first | apply Kd.R_alloc | apply Kd.R_drewN | apply Kd.R_drew)); exact HO_38.out⟩, ⟨by (with_reducible repeat (first | apply Kd.R_alloc | apply Kd.R_drewN | apply Kd.R_drew)); exact HO_45.out⟩, ⟨by (with_reducible repeat (first | apply Kd.R_alloc | apply Kd.R_drewN | apply Kd.R_drew)); exact HO_55.out⟩, ⟨by (with_reducible repeat (first | apply Kd.R_alloc | apply Kd.R_drewN | apply Kd.R_drew)); exact HO_57.out⟩, ⟨by (with_reducible repeat (first | apply Kd.R_alloc | apply Kd.R_drewN | apply Kd.R_drew)); exact HO_65.out⟩, ⟨by repeat (first | (with_reducible first | exact HB.out | apply below_alloc | apply pw_below_drewN | apply below_drew1) | exact HB.out)⟩⟩
  subst c204
  have H1 : ((impl_JubileesIn.f kj201 x38_s28 x72_1 x40_s28).bind fun bt543 => (if bt543.2 = true then (if ((decide ((bt543.1.length : Int) > 0)) != (x72_1 == x41_s28)) = true then (some false) else (laws_FnJubileesCome.l3 kj201 x38_s28 x39_s28 x40_s28 x41_s28 x45_s28 x49_s28 x50_s28 x51_s28 x55_s28 x56_s28 x57_s28 x58_s28 x61_s28 x62_s28 x63_s28 x64_s28 x65_s28 x66_s28 (wrap64 (x72_1 + 1)))) else (some false))) = some true := by rw [if_pos rfl] at H; first | done | exact H
  clear H
  have H := H1
  clear H1
  replace H := Option.bind_eq_some_iff.mp H
  obtain ⟨⟨t543, t544⟩, A2050, H⟩ := H
  replace H : (if t544 = true then (if ((decide ((t543.length : Int) > 0)) != (x72_1 == x41_s28)) = true then (some false) else (laws_FnJubileesCome.l3 kj201 x38_s28 x39_s28 x40_s28 x41_s28 x45_s28 x49_s28 x50_s28 x51_s28 x55_s28 x56_s28 x57_s28 x58_s28 x61_s28 x62_s28 x63_s28 x64_s28 x65_s28 x66_s28 (wrap64 (x72_1 + 1)))) else (some false)) = some true := H
  have A205 := Aside0.mk A2050
  clear A2050
  by_cases c206 : t544 = true
  rotate_left
  · replace c206 := Bool.eq_false_iff.mpr c206
    subst c206
    have H1 : (some false) = some true := by rw [if_neg (show ¬ (false = true) by decide)] at H; first | done | exact H
    clear H
    have H := H1
    clear H1
    exact absurd H (by simp)
  subst c206
  have H1 : (if ((decide ((t543.length : Int) > 0)) != (x72_1 == x41_s28)) = true then (some false) else (laws_FnJubileesCome.l3 kj201 x38_s28 x39_s28 x40_s28 x41_s28 x45_s28 x49_s28 x50_s28 x51_s28 x55_s28 x56_s28 x57_s28 x58_s28 x61_s28 x62_s28 x63_s28 x64_s28 x65_s28 x66_s28 (wrap64 (x72_1 + 1)))) = some true := by rw [if_pos rfl] at H; first | done | exact H
  clear H
  have H := H1
  clear H1
  by_cases c207 : ((decide ((t543.length : Int) > 0)) != (x72_1 == x41_s28)) = true
  · rw [if_pos c207] at H
    have c207b0 : ((decide ((t543.length : Int) > 0)) != (x72_1 == x41_s28)) = true := c207
    (try (have c207b1 : decide ((decide ((t543.length : Int) > 0)) = (x72_1 == x41_s28)) = false := by simpa using c207))
    (try (have c207b2 : ((decide ((t543.length : Int) > 0)) == (x72_1 == x41_s28)) = false := by simpa using c207))
    (try (have c207b3 : ¬ ((decide ((t543.length : Int) > 0)) = (x72_1 == x41_s28)) := by simpa using c207))
    (try (have c207b4 : decide ((decide (0 < t543.length)) = (x72_1 == x41_s28)) = false := by simpa using c207))
    (try (have c207b5 : ((decide (0 < t543.length)) == (x72_1 == x41_s28)) = false := by simpa using c207))
    (try (have c207b6 : ¬ ((decide (0 < t543.length)) = (x72_1 == x41_s28)) := by simpa using c207))
    clear c207
    exact absurd H (by simp)
  rw [if_neg c207] at H
  have c207b0 : ((decide ((t543.length : Int) > 0)) != (x72_1 == x41_s28)) = false := by simpa using c207
  (try (have c207b1 : decide ((decide ((t543.length : Int) > 0)) = (x72_1 == x41_s28)) = true := by simpa using c207))
  (try (have c207b2 : ((decide ((t543.length : Int) > 0)) == (x72_1 == x41_s28)) = true := by simpa using c207))
  (try (have c207b3 : decide ((decide (0 < t543.length)) = (x72_1 == x41_s28)) = true := by simpa using c207))
  (try (have c207b4 : ((decide (0 < t543.length)) == (x72_1 == x41_s28)) = true := by simpa using c207))
  clear c207
  have H' := Aside0.mk H
  clear H
  obtain ⟨Ao208, co208, eo208⟩ := Kd.R_slice HO_38.out
  subst eo208
  go_wp2_with (first | ((with_reducible refine gate_callee (f := 17) rfl ?_); refine goesL_ (some 618) rfl rfl Try.func17 (by kernel_rfl) rfl #[.slice Ao208 x38_s28.length co208, .int .i64 x72_1, .int .i64 x40_s28] rfl (by (try simp only [List.map_toArray, List.map_cons, List.map_nil]); first | done | rfl | (simp only [List.length_drop, List.length_take]; rfl)) ?_; (with_reducible refine (impl_JubileesIn.calls kj201 _ _ x38_s28 x72_1 x40_s28 t543 true _ ?side1 ?side2 A205.out).mono ?_); (case side1 => repeat (first | exact (Kd.R_reads' HO_38.out).2.2 | (with_reducible refine Kd.C_alloc ?_ _) | (with_reducible refine Kd.C_drewN ?_ _) | (with_reducible refine Kd.C_drew ?_))); (case side2 => exact (Kd.R_reads' HO_38.out).2.1); rintro e w209 ⟨v545, rfl, ho0, hb⟩; refine ⟨_, rfl, ?_⟩; have n0_ := Aside0.mk (Kd.R_elder' (by (with_reducible repeat (first | apply Kd.R_alloc | apply Kd.R_drewN | apply Kd.R_drew)); exact HO_38.out) (Kd.R_base ho0) hb); have n1_ := Aside0.mk (Kd.R_elder' (by (with_reducible repeat (first | apply Kd.R_alloc | apply Kd.R_drewN | apply Kd.R_drew)); exact HO_45.out) (Kd.R_base ho0) hb); have n2_ := Aside0.mk (Kd.R_elder' (by (with_reducible repeat (first | apply Kd.R_alloc | apply Kd.R_drewN | apply Kd.R_drew)); exact HO_55.out) (Kd.R_base ho0) hb); have n3_ := Aside0.mk (Kd.R_elder' (by (with_reducible repeat (first | apply Kd.R_alloc | apply Kd.R_drewN | apply Kd.R_drew)); exact HO_57.out) (Kd.R_base ho0) hb); have n4_ := Aside0.mk (Kd.R_elder' (by (with_reducible repeat (first | apply Kd.R_alloc | apply Kd.R_drewN | apply Kd.R_drew)); exact HO_65.out) (Kd.R_base ho0) hb); have n5_ := Aside0.mk (Kd.R_lower (Kd.R_new' (Kd.R_new' (Kd.R_new' (Kd.R_new' (Kd.R_new' ho0 (Kd.R_lt (by (with_reducible repeat (first | apply Kd.R_alloc | apply Kd.R_drewN | apply Kd.R_drew)); exact HO_38.out))) (Kd.R_lt (by (with_reducible repeat (first | apply Kd.R_alloc | apply Kd.R_drewN | apply Kd.R_drew)); exact HO_45.out))) (Kd.R_lt (by (with_reducible repeat (first | apply Kd.R_alloc | apply Kd.R_drewN | apply Kd.R_drew)); exact HO_55.out))) (Kd.R_lt (by (with_reducible repeat (first | apply Kd.R_alloc | apply Kd.R_drewN | apply Kd.R_drew)); exact HO_57.out))) (Kd.R_lt (by (with_reducible repeat (first | apply Kd.R_alloc | apply Kd.R_drewN | apply Kd.R_drew)); exact HO_65.out))) (below_size (by repeat (first | (with_reducible first | exact HB.out | apply below_alloc | apply pw_below_drewN | apply below_drew1) | exact HB.out)))); have n6_ := Aside0.mk (below_step (by repeat (first | (with_reducible first | exact HB.out | apply below_alloc | apply pw_below_drewN | apply below_drew1) | exact HB.out)) hb); clear HO_38; clear HO_45; clear HO_55; clear HO_57; clear HO_65; clear HB; have HO_38 := n0_; have HO_45 := n1_; have HO_55 := n2_; have HO_57 := n3_; have HO_65 := n4_; have HO546 := n5_; have HB := n6_; clear n0_ n1_ n2_ n3_ n4_ n5_ n6_; (try clear hb); (try clear hb2); (try clear hk); (try clear hi); (try clear ho0); obtain ⟨Ao210, co210, eo210⟩ := Kd.R_slice HO546.out; subst eo210))
  go_roundg kj201
  case measure => have := HK1.out; have := HJ201.out; omega
  case rel => exact ⟨(wrap64 (x72_1 + 1)), (by first | rfl | (simp; done) | (simp [*]; done)), H', ⟨by have := HK1.out; have := HJ201.out; omega⟩, ⟨by (with_reducible repeat (first | apply Kd.R_alloc | apply Kd.R_drewN | apply Kd.R_drew)); exact Kd.R_mono HO_38.out (fun _ hk => ⟨hk.1.1, ⟨hk.1.2.1, ⟨hk.1.2.2.1, hk.1.2.2.2⟩⟩⟩)⟩, ⟨by (with_reducible repeat (first | apply Kd.R_alloc | apply Kd.R_drewN | apply Kd.R_drew)); exact Kd.R_mono HO_45.out (fun _ hk => ⟨hk.1.1, ⟨hk.1.2.1, ⟨hk.1.2.2.1, hk.1.2.2.2⟩⟩⟩)⟩, ⟨by (with_reducible repeat (first | apply Kd.R_alloc | apply Kd.R_drewN | apply Kd.R_drew)); exact Kd.R_mono HO_55.out (fun _ hk => ⟨hk.1.1, ⟨hk.1.2.1, ⟨hk.1.2.2.1, hk.1.2.2.2⟩⟩⟩)⟩, ⟨by (with_reducible repeat (first | apply Kd.R_alloc | apply Kd.R_drewN | apply Kd.R_drew)); exact Kd.R_mono HO_57.out (fun _ hk => ⟨hk.1.1, ⟨hk.1.2.1, ⟨hk.1.2.2.1, hk.1.2.2.2⟩⟩⟩)⟩, ⟨by (with_reducible repeat (first | apply Kd.R_alloc | apply Kd.R_drewN | apply Kd.R_drew)); exact Kd.R_mono HO_65.out (fun _ hk => ⟨hk.1.1, ⟨hk.1.2.1, ⟨hk.1.2.2.1, hk.1.2.2.2⟩⟩⟩)⟩, ⟨by repeat (first | (with_reducible first | exact HB.out | apply below_alloc | apply pw_below_drewN | apply below_drew1) | exact HB.out)⟩⟩

noncomputable def laws_FnJubileesCome.code27 (R : Code) : Code := withTail 1 (dropSeq 27 (Try.f3.body.getD .skip)) R
set_option maxHeartbeats 40000000 in
set_option maxRecDepth 100000 in
theorem laws_FnJubileesCome.st27 (A0 : Option Addr) (c0 : Nat) (l0 : List Int) (A1 : Option Addr) (c1 : Nat) (l1 : List Int) (w : World) (hr0 : Kd.C (Kd.int .u8) w A0 l0.length l0) (hc0 : l0.length ≤ c0) (hr1 : Kd.C (Kd.int .u8) w A1 l1.length l1) (hc1 : l1.length ≤ c1) (R : Code) (hR : ∀ (a' : Act) (wc : World), laws_FnJubileesCome.pre28 A0 c0 l0 A1 c1 l1 w a' wc → Code.wp Try.prog R (bodyPost Try.prog Try.f3 (fun e w' => e = .returned (.bool true) ∧ Below w.heap.size w w')) a' wc) (a' : Act) (wc : World) (hP : laws_FnJubileesCome.pre27 A0 c0 l0 A1 c1 l1 w a' wc) :
    Code.wp Try.prog (laws_FnJubileesCome.code27 R) (bodyPost Try.prog Try.f3 (fun e w' => e = .returned (.bool true) ∧ Below w.heap.size w w')) a' wc := by
  have HR0 := Aside0.mk hr0
  have HC0 := Aside0.mk hc0
  clear hr0 hc0
  have HR1 := Aside0.mk hr1
  have HC1 := Aside0.mk hc1
  clear hr1 hc1
  unfold laws_FnJubileesCome.pre27 at hP
  obtain ⟨kq, x38_s27, x39_s27, x40_s27, x41_s27, x42_s27, x45_s27, x46_s27, x49_s27, x50_s27, x51_s27, x55_s27, x56_s27, x57_s27, x58_s27, x61_s27, x62_s27, x63_s27, x64_s27, x65_s27, x66_s27, u38, u45, u55, u57, u65, ⟨hlen, hdef⟩, hq38, hq39, hq40, hq41, hq42, hq45, hq46, hq49, hq50, hq51, hq55, hq56, hq57, hq58, hq61, hq62, hq63, hq64, hq65, hq66, HA, HO_38, HO_45, HO_55, HO_57, HO_65, HB⟩ := hP
  obtain ⟨uf, rfl⟩ := laws_FnJubileesCome.frame a' hlen hdef
  clear hlen hdef
  have he38 : uf 38 = u38 := hq38
  clear hq38
  have he39 : uf 39 = .int .i64 x39_s27 := hq39
  clear hq39
  have he40 : uf 40 = .int .i64 x40_s27 := hq40
  clear hq40
  have he41 : uf 41 = .int .i64 x41_s27 := hq41
  clear hq41
  have he42 : uf 42 = .bool x42_s27 := hq42
  clear hq42
  have he45 : uf 45 = u45 := hq45
  clear hq45
  have he46 : uf 46 = .bool x46_s27 := hq46
  clear hq46
  have he49 : uf 49 = .int .i64 x49_s27 := hq49
  clear hq49
  have he50 : uf 50 = .int .i64 x50_s27 := hq50
  clear hq50
  have he51 : uf 51 = .bool x51_s27 := hq51
  clear hq51
  have he55 : uf 55 = u55 := hq55
  clear hq55
  have he56 : uf 56 = .int .i64 x56_s27 := hq56
  clear hq56
  have he57 : uf 57 = u57 := hq57
  clear hq57
  have he58 : uf 58 = .bool x58_s27 := hq58
  clear hq58
  have he61 : uf 61 = .int .i64 x61_s27 := hq61
  clear hq61
  have he62 : uf 62 = .int .i64 x62_s27 := hq62
  clear hq62
  have he63 : uf 63 = .int .i64 x63_s27 := hq63
  clear hq63
  have he64 : uf 64 = .int .i64 x64_s27 := hq64
  clear hq64
  have he65 : uf 65 = u65 := hq65
  clear hq65
  have he66 : uf 66 = .bool x66_s27 := hq66
  clear hq66
  simp only [he38, he39, he40, he41, he42, he45, he46, he49, he50, he51, he55, he56, he57, he58, he61, he62, he63, he64, he65, he66]
  clear he38 he39 he40 he41 he42 he45 he46 he49 he50 he51 he55 he56 he57 he58 he61 he62 he63 he64 he65 he66
  dsimp only [laws_FnJubileesCome.code27, withTail, dropSeq, Try.f3, Option.getD]
  rcases kq with _ | kj_s27
  · exact absurd HA.out (by simp [laws_FnJubileesCome.j16])
  have H := HA.out
  clear HA
  simp only [laws_FnJubileesCome.j16] at H
  by_cases c185 : x46_s27 = true
  rotate_left
  · replace c185 := Bool.eq_false_iff.mpr c185
    subst c185
    have H1 : (laws_FnJubileesCome.j18 kj_s27 x38_s27 x39_s27 x40_s27 x41_s27 x42_s27 x45_s27 x49_s27 x50_s27 x51_s27 x55_s27 x56_s27 x57_s27 x58_s27 x61_s27 x62_s27 x63_s27 x64_s27 x65_s27 x66_s27) = some true := by rw [if_neg (show ¬ (false = true) by decide)] at H; first | done | exact H
    clear H
    have H := H1
    clear H1
    have H' := Aside0.mk H
    clear H
    go_wp2
    refine hR _ _ ?_
    unfold laws_FnJubileesCome.pre28
    exact ⟨_, (x38_s27), (x39_s27), (x40_s27), (x41_s27), (x42_s27), (x45_s27), (x49_s27), (x50_s27), (x51_s27), (x55_s27), (x56_s27), (x57_s27), (x58_s27), (x61_s27), (x62_s27), (x63_s27), (x64_s27), (x65_s27), (x66_s27), (u38), (u45), (u55), (u57), (u65), ⟨rfl, rfl⟩, (by first | rfl | (show _ = _; simp [nthV]; done) | (simp [nthV, *]; done)), (by first | rfl | (show _ = _; simp [nthV]; done) | (simp [nthV, *]; done)), (by first | rfl | (show _ = _; simp [nthV]; done) | (simp [nthV, *]; done)), (by first | rfl | (show _ = _; simp [nthV]; done) | (simp [nthV, *]; done)), (by first | rfl | (show _ = _; simp [nthV]; done) | (simp [nthV, *]; done)), (by first | rfl | (show _ = _; simp [nthV]; done) | (simp [nthV, *]; done)), (by first | rfl | (show _ = _; simp [nthV]; done) | (simp [nthV, *]; done)), (by first | rfl | (show _ = _; simp [nthV]; done) | (simp [nthV, *]; done)), (by first | rfl | (show _ = _; simp [nthV]; done) | (simp [nthV, *]; done)), (by first | rfl | (show _ = _; simp [nthV]; done) | (simp [nthV, *]; done)), (by first | rfl | (show _ = _; simp [nthV]; done) | (simp [nthV, *]; done)), (by first | rfl | (show _ = _; simp [nthV]; done) | (simp [nthV, *]; done)), (by first | rfl | (show _ = _; simp [nthV]; done) | (simp [nthV, *]; done)), (by first | rfl | (show _ = _; simp [nthV]; done) | (simp [nthV, *]; done)), (by first | rfl | (show _ = _; simp [nthV]; done) | (simp [nthV, *]; done)), (by first | rfl | (show _ = _; simp [nthV]; done) | (simp [nthV, *]; done)), (by first | rfl | (show _ = _; simp [nthV]; done) | (simp [nthV, *]; done)), (by first | rfl | (show _ = _; simp [nthV]; done) | (simp [nthV, *]; done)), (by first | rfl | (show _ = _; simp [nthV]; done) | (simp [nthV, *]; done)), H', ⟨by (with_reducible repeat (first | apply Kd.R_alloc | apply Kd.R_drewN | apply Kd.R_drew)); exact HO_38.out⟩, ⟨by (with_reducible repeat (first | apply Kd.R_alloc | apply Kd.R_drewN | apply Kd.R_drew)); exact HO_45.out⟩, ⟨by (with_reducible repeat (first | apply Kd.R_alloc | apply Kd.R_drewN | apply Kd.R_drew)); exact HO_55.out⟩, ⟨by (with_reducible repeat (first | apply Kd.R_alloc | apply Kd.R_drewN | apply Kd.R_drew)); exact HO_57.out⟩, ⟨by (with_reducible repeat (first | apply Kd.R_alloc | apply Kd.R_drewN | apply Kd.R_drew)); exact HO_65.out⟩, ⟨by repeat (first | (with_reducible first | exact HB.out | apply below_alloc | apply pw_below_drewN | apply below_drew1) | exact HB.out)⟩⟩
  subst c185
  have H1 : (laws_FnJubileesCome.l2 kj_s27 x38_s27 x39_s27 x40_s27 x41_s27 x42_s27 x45_s27 x49_s27 x50_s27 x51_s27 x55_s27 x56_s27 x57_s27 x58_s27 x61_s27 x62_s27 x63_s27 x64_s27 x65_s27 x66_s27 x38_s27 (x38_s27.length : Int) 0) = some true := by rw [if_pos rfl] at H; first | done | exact H
  clear H
  have H := H1
  clear H1
  have H' := Aside0.mk H
  clear H
  obtain ⟨Ao186, co186, eo186⟩ := Kd.R_slice HO_38.out
  subst eo186
  go_wp2
  go_loopg [572] kj_s27 (fun kq v572 w' => ∃ (x572_1 : Int), v572 = .int .i64 x572_1 ∧ Aside0 (laws_FnJubileesCome.l2 kq x38_s27 x39_s27 x40_s27 x41_s27 x42_s27 x45_s27 x49_s27 x50_s27 x51_s27 x55_s27 x56_s27 x57_s27 x58_s27 x61_s27 x62_s27 x63_s27 x64_s27 x65_s27 x66_s27 x38_s27 (x38_s27.length : Int) x572_1 = some true) ∧ Aside0 (kq ≤ kj_s27) ∧ Aside0 (Kd.R (Kd.int .i64) 3 w' w.heap.size (fun k_ => some k_ ≠ (u45 : Value).ownBlock ∧ some k_ ≠ (u55 : Value).ownBlock ∧ some k_ ≠ (u57 : Value).ownBlock ∧ some k_ ≠ (u65 : Value).ownBlock) (.slice Ao186 x38_s27.length co186) x38_s27) ∧ Aside0 (Kd.R (Kd.int .i64) 3 w' w.heap.size (fun k_ => some k_ ≠ ((.slice Ao186 x38_s27.length co186) : Value).ownBlock ∧ some k_ ≠ (u55 : Value).ownBlock ∧ some k_ ≠ (u57 : Value).ownBlock ∧ some k_ ≠ (u65 : Value).ownBlock ∧ some k_ ≠ ((.slice Ao186 x38_s27.length co186) : Value).ownBlock) u45 x45_s27) ∧ Aside0 (Kd.R (Kd.int .i64) 3 w' w.heap.size (fun k_ => some k_ ≠ ((.slice Ao186 x38_s27.length co186) : Value).ownBlock ∧ some k_ ≠ (u45 : Value).ownBlock ∧ some k_ ≠ (u57 : Value).ownBlock ∧ some k_ ≠ (u65 : Value).ownBlock ∧ some k_ ≠ ((.slice Ao186 x38_s27.length co186) : Value).ownBlock) u55 x55_s27) ∧ Aside0 (Kd.R (Kd.int .i64) 3 w' w.heap.size (fun k_ => some k_ ≠ ((.slice Ao186 x38_s27.length co186) : Value).ownBlock ∧ some k_ ≠ (u45 : Value).ownBlock ∧ some k_ ≠ (u55 : Value).ownBlock ∧ some k_ ≠ (u65 : Value).ownBlock ∧ some k_ ≠ ((.slice Ao186 x38_s27.length co186) : Value).ownBlock) u57 x57_s27) ∧ Aside0 (Kd.R (Kd.int .i64) 3 w' w.heap.size (fun k_ => some k_ ≠ ((.slice Ao186 x38_s27.length co186) : Value).ownBlock ∧ some k_ ≠ (u45 : Value).ownBlock ∧ some k_ ≠ (u55 : Value).ownBlock ∧ some k_ ≠ (u57 : Value).ownBlock ∧ some k_ ≠ ((.slice Ao186 x38_s27.length co186) : Value).ownBlock) u65 x65_s27) ∧ Aside0 (Kd.R (Kd.int .i64) 3 w' w.heap.size (fun k_ => some k_ ≠ (u45 : Value).ownBlock ∧ some k_ ≠ (u55 : Value).ownBlock ∧ some k_ ≠ (u57 : Value).ownBlock ∧ some k_ ≠ (u65 : Value).ownBlock) (.slice Ao186 x38_s27.length co186) x38_s27) ∧ Aside0 (Below w.heap.size w w'))
  case atStart => exact ⟨(0), (by first | rfl | (simp; done) | (simp [*]; done)), H', ⟨Nat.le_refl _⟩, ⟨by (with_reducible repeat (first | apply Kd.R_alloc | apply Kd.R_drewN | apply Kd.R_drew)); exact HO_38.out⟩, ⟨by (with_reducible repeat (first | apply Kd.R_alloc | apply Kd.R_drewN | apply Kd.R_drew)); exact Kd.R_mono HO_45.out (fun _ hk => ⟨hk.1, ⟨hk.2.1, ⟨hk.2.2.1, ⟨hk.2.2.2, hk.1⟩⟩⟩⟩)⟩, ⟨by (with_reducible repeat (first | apply Kd.R_alloc | apply Kd.R_drewN | apply Kd.R_drew)); exact Kd.R_mono HO_55.out (fun _ hk => ⟨hk.1, ⟨hk.2.1, ⟨hk.2.2.1, ⟨hk.2.2.2, hk.1⟩⟩⟩⟩)⟩, ⟨by (with_reducible repeat (first | apply Kd.R_alloc | apply Kd.R_drewN | apply Kd.R_drew)); exact Kd.R_mono HO_57.out (fun _ hk => ⟨hk.1, ⟨hk.2.1, ⟨hk.2.2.1, ⟨hk.2.2.2, hk.1⟩⟩⟩⟩)⟩, ⟨by (with_reducible repeat (first | apply Kd.R_alloc | apply Kd.R_drewN | apply Kd.R_drew)); exact Kd.R_mono HO_65.out (fun _ hk => ⟨hk.1, ⟨hk.2.1, ⟨hk.2.2.1, ⟨hk.2.2.2, hk.1⟩⟩⟩⟩)⟩, ⟨by (with_reducible repeat (first | apply Kd.R_alloc | apply Kd.R_drewN | apply Kd.R_drew)); exact HO_38.out⟩, ⟨by repeat (first | (with_reducible first | exact HB.out | apply below_alloc | apply pw_below_drewN | apply below_drew1) | exact HB.out)⟩⟩
  clear H'
  try clear c185
  obtain ⟨x572_1, rfl, HA, HK1, HO_38, HO_45, HO_55, HO_57, HO_65, HO_570, HB⟩ := hrel
  rcases gk with _ | k1
  · exact absurd HA.out (by simp [laws_FnJubileesCome.l2])
  have H := HA.out
  clear HA
  simp only [laws_FnJubileesCome.l2] at H
  by_cases c187 : x572_1 < (x38_s27.length : Int)
  rotate_left
  · rw [if_neg c187] at H
    have c187b0 : decide (x572_1 < (x38_s27.length : Int)) = false := decide_eq_false c187
    clear c187
    have H' := Aside0.mk H
    clear H
    go_wp2
    refine hR _ _ ?_
    unfold laws_FnJubileesCome.pre28
    exact ⟨_, (x38_s27), (x39_s27), (x40_s27), (x41_s27), (x42_s27), (x45_s27), (x49_s27), (x50_s27), (x51_s27), (x55_s27), (x56_s27), (x57_s27), (x58_s27), (x61_s27), (x62_s27), (x63_s27), (x64_s27), (x65_s27), (x66_s27), (.slice Ao186 x38_s27.length co186), (u45), (u55), (u57), (u65), ⟨rfl, rfl⟩, (by first | rfl | (show _ = _; simp [nthV]; done) | (simp [nthV, *]; done)), (by first | rfl | (show _ = _; simp [nthV]; done) | (simp [nthV, *]; done)), (by first | rfl | (show _ = _; simp [nthV]; done) | (simp [nthV, *]; done)), (by first | rfl | (show _ = _; simp [nthV]; done) | (simp [nthV, *]; done)), (by first | rfl | (show _ = _; simp [nthV]; done) | (simp [nthV, *]; done)), (by first | rfl | (show _ = _; simp [nthV]; done) | (simp [nthV, *]; done)), (by first | rfl | (show _ = _; simp [nthV]; done) | (simp [nthV, *]; done)), (by first | rfl | (show _ = _; simp [nthV]; done) | (simp [nthV, *]; done)), (by first | rfl | (show _ = _; simp [nthV]; done) | (simp [nthV, *]; done)), (by first | rfl | (show _ = _; simp [nthV]; done) | (simp [nthV, *]; done)), (by first | rfl | (show _ = _; simp [nthV]; done) | (simp [nthV, *]; done)), (by first | rfl | (show _ = _; simp [nthV]; done) | (simp [nthV, *]; done)), (by first | rfl | (show _ = _; simp [nthV]; done) | (simp [nthV, *]; done)), (by first | rfl | (show _ = _; simp [nthV]; done) | (simp [nthV, *]; done)), (by first | rfl | (show _ = _; simp [nthV]; done) | (simp [nthV, *]; done)), (by first | rfl | (show _ = _; simp [nthV]; done) | (simp [nthV, *]; done)), (by first | rfl | (show _ = _; simp [nthV]; done) | (simp [nthV, *]; done)), (by first | rfl | (show _ = _; simp [nthV]; done) | (simp [nthV, *]; done)), (by first | rfl | (show _ = _; simp [nthV]; done) | (simp [nthV, *]; done)), H', ⟨by (with_reducible repeat (first | apply Kd.R_alloc | apply Kd.R_drewN | apply Kd.R_drew)); exact HO_38.out⟩, ⟨by (with_reducible repeat (first | apply Kd.R_alloc | apply Kd.R_drewN | apply Kd.R_drew)); exact Kd.R_mono HO_45.out (fun _ hk => ⟨hk.1, ⟨hk.2.1, ⟨hk.2.2.1, hk.2.2.2.1⟩⟩⟩)⟩, ⟨by (with_reducible repeat (first | apply Kd.R_alloc | apply Kd.R_drewN | apply Kd.R_drew)); exact Kd.R_mono HO_55.out (fun _ hk => ⟨hk.1, ⟨hk.2.1, ⟨hk.2.2.1, hk.2.2.2.1⟩⟩⟩)⟩, ⟨by (with_reducible repeat (first | apply Kd.R_alloc | apply Kd.R_drewN | apply Kd.R_drew)); exact Kd.R_mono HO_57.out (fun _ hk => ⟨hk.1, ⟨hk.2.1, ⟨hk.2.2.1, hk.2.2.2.1⟩⟩⟩)⟩, ⟨by (with_reducible repeat (first | apply Kd.R_alloc | apply Kd.R_drewN | apply Kd.R_drew)); exact Kd.R_mono HO_65.out (fun _ hk => ⟨hk.1, ⟨hk.2.1, ⟨hk.2.2.1, hk.2.2.2.1⟩⟩⟩)⟩, ⟨by repeat (first | (with_reducible first | exact HB.out | apply below_alloc | apply pw_below_drewN | apply below_drew1) | exact HB.out)⟩⟩
  rw [if_pos c187] at H
  have c187b0 : decide (x572_1 < (x38_s27.length : Int)) = true := decide_eq_true c187
  clear c187
  by_cases c188 : 0 ≤ x572_1
  rotate_left
  · rw [if_neg c188] at H
    exact absurd H (by simp)
  rw [if_pos c188] at H
  have c188b0 : decide (0 ≤ x572_1) = true := decide_eq_true c188
  clear c188
  by_cases c189 : x572_1 < (x38_s27.length : Int)
  rotate_left
  · rw [if_neg c189] at H
    exact absurd H (by simp)
  rw [if_pos c189] at H
  have c189b0 : decide (x572_1 < (x38_s27.length : Int)) = true := decide_eq_true c189
  clear c189
  replace H := Option.bind_eq_some_iff.mp H
  obtain ⟨t542, A1900, H⟩ := H
  (try dsimp only at H)
  have A190 := Aside0.mk A1900
  clear A1900
  by_cases c191 : (wrap64 (x39_s27 - (rd x38_s27 x572_1))) > 0
  rotate_left
  · rw [if_neg c191] at H
    have c191b0 : decide (0 < (wrap64 (x39_s27 - (rd x38_s27 x572_1)))) = false := decide_eq_false c191
    clear c191
    by_cases c198 : (t542 != false) = true
    · rw [if_pos c198] at H
      have c198b0 : (t542 != false) = true := c198
      (try (have c198b1 : decide (t542 = false) = false := by simpa using c198))
      (try (have c198b2 : (t542 == false) = false := by simpa using c198))
      (try (have c198b3 : ¬ (t542 = false) := by simpa using c198))
      clear c198
      exact absurd H (by simp)
    rw [if_neg c198] at H
    have c198b0 : (t542 != false) = false := by simpa using c198
    (try (have c198b1 : decide (t542 = false) = true := by simpa using c198))
    (try (have c198b2 : (t542 == false) = true := by simpa using c198))
    clear c198
    have H' := Aside0.mk H
    clear H
    have p541 : 0 ≤ (x572_1 : Int) := of_decide_eq_true (by first | (with_reducible assumption) | assumption)
    have q541 : x572_1 < (x38_s27.length : Int) := of_decide_eq_true (by first | (with_reducible assumption) | assumption)
    obtain ⟨ad541, e541, hx541_0⟩ := Kd.at_int (Kd.R_reads' HO_570.out).2.2 x572_1 p541 q541
    cases e541
    replace p541 := eq_true p541
    replace q541 := eq_true q541
    obtain ⟨Ao199, co199, eo199⟩ := Kd.R_slice HO_45.out
    subst eo199
    go_wp2_with (first | ((with_reducible refine gate_callee (f := 32) rfl ?_); refine goesL_ (some 582) rfl rfl Try.func32 (by kernel_rfl) rfl #[.slice Ao199 x45_s27.length co199, .int .i64 x572_1] rfl (by (try simp only [List.map_toArray, List.map_cons, List.map_nil]); first | done | rfl | (simp only [List.length_drop, List.length_take]; rfl)) ?_; (with_reducible refine (laws_qHas.calls k1 _ _ x45_s27 x572_1 t542 _ ?side1 ?side2 A190.out).mono ?_); (case side1 => repeat (first | exact (Kd.R_reads' HO_45.out).2.2 | (with_reducible refine Kd.C_alloc ?_ _) | (with_reducible refine Kd.C_drewN ?_ _) | (with_reducible refine Kd.C_drew ?_))); (case side2 => exact (Kd.R_reads' HO_45.out).2.1); rintro e w' ⟨rfl, ⟨nd, rfl⟩⟩; refine ⟨_, rfl, ?_⟩))
    go_roundg k1
    case measure => have := HK1.out; omega
    case rel => exact ⟨(wrap64 (x572_1 + 1)), (by first | rfl | (simp; done) | (simp [*]; done)), H', ⟨by have := HK1.out; omega⟩, ⟨by (with_reducible repeat (first | apply Kd.R_alloc | apply Kd.R_drewN | apply Kd.R_drew)); exact HO_38.out⟩, ⟨by (with_reducible repeat (first | apply Kd.R_alloc | apply Kd.R_drewN | apply Kd.R_drew)); exact HO_45.out⟩, ⟨by (with_reducible repeat (first | apply Kd.R_alloc | apply Kd.R_drewN | apply Kd.R_drew)); exact HO_55.out⟩, ⟨by (with_reducible repeat (first | apply Kd.R_alloc | apply Kd.R_drewN | apply Kd.R_drew)); exact HO_57.out⟩, ⟨by (with_reducible repeat (first | apply Kd.R_alloc | apply Kd.R_drewN | apply Kd.R_drew)); exact HO_65.out⟩, ⟨by (with_reducible repeat (first | apply Kd.R_alloc | apply Kd.R_drewN | apply Kd.R_drew)); exact HO_570.out⟩, ⟨by repeat (first | (with_reducible first | exact HB.out | apply below_alloc | apply pw_below_drewN | apply below_drew1) | exact HB.out)⟩⟩
  rw [if_pos c191] at H
  have c191b0 : decide (0 < (wrap64 (x39_s27 - (rd x38_s27 x572_1)))) = true := decide_eq_true c191
  clear c191
  by_cases c192 : (wrap64 (x39_s27 - (rd x38_s27 x572_1))) ≤ 120
  rotate_left
  · rw [if_neg c192] at H
    have c192b0 : decide ((wrap64 (x39_s27 - (rd x38_s27 x572_1))) ≤ 120) = false := decide_eq_false c192
    clear c192
    by_cases c196 : (t542 != false) = true
    · rw [if_pos c196] at H
      have c196b0 : (t542 != false) = true := c196
      (try (have c196b1 : decide (t542 = false) = false := by simpa using c196))
      (try (have c196b2 : (t542 == false) = false := by simpa using c196))
      (try (have c196b3 : ¬ (t542 = false) := by simpa using c196))
      clear c196
      exact absurd H (by simp)
    rw [if_neg c196] at H
    have c196b0 : (t542 != false) = false := by simpa using c196
    (try (have c196b1 : decide (t542 = false) = true := by simpa using c196))
    (try (have c196b2 : (t542 == false) = true := by simpa using c196))
    clear c196
    have H' := Aside0.mk H
    clear H
    have p541 : 0 ≤ (x572_1 : Int) := of_decide_eq_true (by first | (with_reducible assumption) | assumption)
    have q541 : x572_1 < (x38_s27.length : Int) := of_decide_eq_true (by first | (with_reducible assumption) | assumption)
    obtain ⟨ad541, e541, hx541_0⟩ := Kd.at_int (Kd.R_reads' HO_570.out).2.2 x572_1 p541 q541
    cases e541
    replace p541 := eq_true p541
    replace q541 := eq_true q541
    obtain ⟨Ao197, co197, eo197⟩ := Kd.R_slice HO_45.out
    subst eo197
    go_wp2_with (first | ((with_reducible refine gate_callee (f := 32) rfl ?_); refine goesL_ (some 582) rfl rfl Try.func32 (by kernel_rfl) rfl #[.slice Ao197 x45_s27.length co197, .int .i64 x572_1] rfl (by (try simp only [List.map_toArray, List.map_cons, List.map_nil]); first | done | rfl | (simp only [List.length_drop, List.length_take]; rfl)) ?_; (with_reducible refine (laws_qHas.calls k1 _ _ x45_s27 x572_1 t542 _ ?side1 ?side2 A190.out).mono ?_); (case side1 => repeat (first | exact (Kd.R_reads' HO_45.out).2.2 | (with_reducible refine Kd.C_alloc ?_ _) | (with_reducible refine Kd.C_drewN ?_ _) | (with_reducible refine Kd.C_drew ?_))); (case side2 => exact (Kd.R_reads' HO_45.out).2.1); rintro e w' ⟨rfl, ⟨nd, rfl⟩⟩; refine ⟨_, rfl, ?_⟩))
    go_roundg k1
    case measure => have := HK1.out; omega
    case rel => exact ⟨(wrap64 (x572_1 + 1)), (by first | rfl | (simp; done) | (simp [*]; done)), H', ⟨by have := HK1.out; omega⟩, ⟨by (with_reducible repeat (first | apply Kd.R_alloc | apply Kd.R_drewN | apply Kd.R_drew)); exact HO_38.out⟩, ⟨by (with_reducible repeat (first | apply Kd.R_alloc | apply Kd.R_drewN | apply Kd.R_drew)); exact HO_45.out⟩, ⟨by (with_reducible repeat (first | apply Kd.R_alloc | apply Kd.R_drewN | apply Kd.R_drew)); exact HO_55.out⟩, ⟨by (with_reducible repeat (first | apply Kd.R_alloc | apply Kd.R_drewN | apply Kd.R_drew)); exact HO_57.out⟩, ⟨by (with_reducible repeat (first | apply Kd.R_alloc | apply Kd.R_drewN | apply Kd.R_drew)); exact HO_65.out⟩, ⟨by (with_reducible repeat (first | apply Kd.R_alloc | apply Kd.R_drewN | apply Kd.R_drew)); exact HO_570.out⟩, ⟨by repeat (first | (with_reducible first | exact HB.out | apply below_alloc | apply pw_below_drewN | apply below_drew1) | exact HB.out)⟩⟩
  rw [if_pos c192] at H
  have c192b0 : decide ((wrap64 (x39_s27 - (rd x38_s27 x572_1))) ≤ 120) = true := decide_eq_true c192
  clear c192
  by_cases c193 : x40_s27 = 0
  · rw [if_pos c193] at H
    exact absurd H (by simp)
  rw [if_neg c193] at H
  have c193b0 : (x40_s27 == 0) = false := beq_eq_false_iff_ne.mpr c193
  have c193b1 : (x40_s27 != 0) = true := bne_iff_ne.mpr c193
  by_cases c194 : (t542 != ((Int.tmod (wrap64 (x39_s27 - (rd x38_s27 x572_1))) x40_s27) == 0)) = true
  · rw [if_pos c194] at H
    have c194b0 : (t542 != ((Int.tmod (wrap64 (x39_s27 - (rd x38_s27 x572_1))) x40_s27) == 0)) = true := c194
    (try (have c194b1 : decide (t542 = ((Int.tmod (wrap64 (x39_s27 - (rd x38_s27 x572_1))) x40_s27) == 0)) = false := by simpa using c194))
    (try (have c194b2 : (t542 == ((Int.tmod (wrap64 (x39_s27 - (rd x38_s27 x572_1))) x40_s27) == 0)) = false := by simpa using c194))
    (try (have c194b3 : ¬ (t542 = ((Int.tmod (wrap64 (x39_s27 - (rd x38_s27 x572_1))) x40_s27) == 0)) := by simpa using c194))
    clear c194
    exact absurd H (by simp)
  rw [if_neg c194] at H
  have c194b0 : (t542 != ((Int.tmod (wrap64 (x39_s27 - (rd x38_s27 x572_1))) x40_s27) == 0)) = false := by simpa using c194
  (try (have c194b1 : decide (t542 = ((Int.tmod (wrap64 (x39_s27 - (rd x38_s27 x572_1))) x40_s27) == 0)) = true := by simpa using c194))
  (try (have c194b2 : (t542 == ((Int.tmod (wrap64 (x39_s27 - (rd x38_s27 x572_1))) x40_s27) == 0)) = true := by simpa using c194))
  clear c194
  have H' := Aside0.mk H
  clear H
  have p541 : 0 ≤ (x572_1 : Int) := of_decide_eq_true (by first | (with_reducible assumption) | assumption)
  have q541 : x572_1 < (x38_s27.length : Int) := of_decide_eq_true (by first | (with_reducible assumption) | assumption)
  obtain ⟨ad541, e541, hx541_0⟩ := Kd.at_int (Kd.R_reads' HO_570.out).2.2 x572_1 p541 q541
  cases e541
  replace p541 := eq_true p541
  replace q541 := eq_true q541
  obtain ⟨Ao195, co195, eo195⟩ := Kd.R_slice HO_45.out
  subst eo195
  go_wp2_with (first | ((with_reducible refine gate_callee (f := 32) rfl ?_); refine goesL_ (some 582) rfl rfl Try.func32 (by kernel_rfl) rfl #[.slice Ao195 x45_s27.length co195, .int .i64 x572_1] rfl (by (try simp only [List.map_toArray, List.map_cons, List.map_nil]); first | done | rfl | (simp only [List.length_drop, List.length_take]; rfl)) ?_; (with_reducible refine (laws_qHas.calls k1 _ _ x45_s27 x572_1 t542 _ ?side1 ?side2 A190.out).mono ?_); (case side1 => repeat (first | exact (Kd.R_reads' HO_45.out).2.2 | (with_reducible refine Kd.C_alloc ?_ _) | (with_reducible refine Kd.C_drewN ?_ _) | (with_reducible refine Kd.C_drew ?_))); (case side2 => exact (Kd.R_reads' HO_45.out).2.1); rintro e w' ⟨rfl, ⟨nd, rfl⟩⟩; refine ⟨_, rfl, ?_⟩))
  go_roundg k1
  case measure => have := HK1.out; omega
  case rel => exact ⟨(wrap64 (x572_1 + 1)), (by first | rfl | (simp; done) | (simp [*]; done)), H', ⟨by have := HK1.out; omega⟩, ⟨by (with_reducible repeat (first | apply Kd.R_alloc | apply Kd.R_drewN | apply Kd.R_drew)); exact HO_38.out⟩, ⟨by (with_reducible repeat (first | apply Kd.R_alloc | apply Kd.R_drewN | apply Kd.R_drew)); exact HO_45.out⟩, ⟨by (with_reducible repeat (first | apply Kd.R_alloc | apply Kd.R_drewN | apply Kd.R_drew)); exact HO_55.out⟩, ⟨by (with_reducible repeat (first | apply Kd.R_alloc | apply Kd.R_drewN | apply Kd.R_drew)); exact HO_57.out⟩, ⟨by (with_reducible repeat (first | apply Kd.R_alloc | apply Kd.R_drewN | apply Kd.R_drew)); exact HO_65.out⟩, ⟨by (with_reducible repeat (first | apply Kd.R_alloc | apply Kd.R_drewN | apply Kd.R_drew)); exact HO_570.out⟩, ⟨by repeat (first | (with_reducible first | exact HB.out | apply below_alloc | apply pw_below_drewN | apply below_drew1) | exact HB.out)⟩⟩

noncomputable def laws_FnJubileesCome.code25 (R : Code) : Code := withTail 1 (dropSeq 25 (Try.f3.body.getD .skip)) R
set_option maxHeartbeats 40000000 in
set_option maxRecDepth 100000 in
theorem laws_FnJubileesCome.st25 (A0 : Option Addr) (c0 : Nat) (l0 : List Int) (A1 : Option Addr) (c1 : Nat) (l1 : List Int) (w : World) (hr0 : Kd.C (Kd.int .u8) w A0 l0.length l0) (hc0 : l0.length ≤ c0) (hr1 : Kd.C (Kd.int .u8) w A1 l1.length l1) (hc1 : l1.length ≤ c1) (R : Code) (hR : ∀ (a' : Act) (wc : World), laws_FnJubileesCome.pre26 A0 c0 l0 A1 c1 l1 w a' wc → Code.wp Try.prog R (bodyPost Try.prog Try.f3 (fun e w' => e = .returned (.bool true) ∧ Below w.heap.size w w')) a' wc) (a' : Act) (wc : World) (hP : laws_FnJubileesCome.pre25 A0 c0 l0 A1 c1 l1 w a' wc) :
    Code.wp Try.prog (laws_FnJubileesCome.code25 R) (bodyPost Try.prog Try.f3 (fun e w' => e = .returned (.bool true) ∧ Below w.heap.size w w')) a' wc := by
  have HR0 := Aside0.mk hr0
  have HC0 := Aside0.mk hc0
  clear hr0 hc0
  have HR1 := Aside0.mk hr1
  have HC1 := Aside0.mk hc1
  clear hr1 hc1
  unfold laws_FnJubileesCome.pre25 at hP
  obtain ⟨kq, x38_s25, x39_s25, x40_s25, x41_s25, x42_s25, x43_s25, x44_s25, x45_s25, x46_s25, x47_s25, x48_s25, x49_s25, x50_s25, x51_s25, x52_s25, x53_s25, x54_s25, x55_s25, x56_s25, x57_s25, x58_s25, x59_s25, x60_s25, x61_s25, x62_s25, x63_s25, x64_s25, x65_s25, x66_s25, u38, u45, u47, u55, u57, u59, u65, ⟨hlen, hdef⟩, hq38, hq39, hq40, hq41, hq42, hq43, hq44, hq45, hq46, hq47, hq48, hq49, hq50, hq51, hq52, hq53, hq54, hq55, hq56, hq57, hq58, hq59, hq60, hq61, hq62, hq63, hq64, hq65, hq66, HA, HO_38, HO_45, HO_47, HO_55, HO_57, HO_59, HO_65, HB⟩ := hP
  obtain ⟨uf, rfl⟩ := laws_FnJubileesCome.frame a' hlen hdef
  clear hlen hdef
  have he38 : uf 38 = u38 := hq38
  clear hq38
  have he39 : uf 39 = .int .i64 x39_s25 := hq39
  clear hq39
  have he40 : uf 40 = .int .i64 x40_s25 := hq40
  clear hq40
  have he41 : uf 41 = .int .i64 x41_s25 := hq41
  clear hq41
  have he42 : uf 42 = .bool x42_s25 := hq42
  clear hq42
  have he43 : uf 43 = .int .i64 x43_s25 := hq43
  clear hq43
  have he44 : uf 44 = .bool x44_s25 := hq44
  clear hq44
  have he45 : uf 45 = u45 := hq45
  clear hq45
  have he46 : uf 46 = .bool x46_s25 := hq46
  clear hq46
  have he47 : uf 47 = u47 := hq47
  clear hq47
  have he48 : uf 48 = .bool x48_s25 := hq48
  clear hq48
  have he49 : uf 49 = .int .i64 x49_s25 := hq49
  clear hq49
  have he50 : uf 50 = .int .i64 x50_s25 := hq50
  clear hq50
  have he51 : uf 51 = .bool x51_s25 := hq51
  clear hq51
  have he52 : uf 52 = .int .i64 x52_s25 := hq52
  clear hq52
  have he53 : uf 53 = .int .i64 x53_s25 := hq53
  clear hq53
  have he54 : uf 54 = .bool x54_s25 := hq54
  clear hq54
  have he55 : uf 55 = u55 := hq55
  clear hq55
  have he56 : uf 56 = .int .i64 x56_s25 := hq56
  clear hq56
  have he57 : uf 57 = u57 := hq57
  clear hq57
  have he58 : uf 58 = .bool x58_s25 := hq58
  clear hq58
  have he59 : uf 59 = u59 := hq59
  clear hq59
  have he60 : uf 60 = .bool x60_s25 := hq60
  clear hq60
  have he61 : uf 61 = .int .i64 x61_s25 := hq61
  clear hq61
  have he62 : uf 62 = .int .i64 x62_s25 := hq62
  clear hq62
  have he63 : uf 63 = .int .i64 x63_s25 := hq63
  clear hq63
  have he64 : uf 64 = .int .i64 x64_s25 := hq64
  clear hq64
  have he65 : uf 65 = u65 := hq65
  clear hq65
  have he66 : uf 66 = .bool x66_s25 := hq66
  clear hq66
  simp only [he38, he39, he40, he41, he42, he43, he44, he45, he46, he47, he48, he49, he50, he51, he52, he53, he54, he55, he56, he57, he58, he59, he60, he61, he62, he63, he64, he65, he66]
  clear he38 he39 he40 he41 he42 he43 he44 he45 he46 he47 he48 he49 he50 he51 he52 he53 he54 he55 he56 he57 he58 he59 he60 he61 he62 he63 he64 he65 he66
  dsimp only [laws_FnJubileesCome.code25, withTail, dropSeq, Try.f3, Option.getD]
  rcases kq with _ | kj_s25
  · exact absurd HA.out (by simp [laws_FnJubileesCome.j14])
  have H := HA.out
  clear HA
  simp only [laws_FnJubileesCome.j14] at H
  replace H := Option.bind_eq_some_iff.mp H
  obtain ⟨⟨t534, t535⟩, A1460, H⟩ := H
  replace H : (laws_FnJubileesCome.j15 kj_s25 x38_s25 x39_s25 x40_s25 x41_s25 x42_s25 x43_s25 x44_s25 x45_s25 x46_s25 x47_s25 x48_s25 x49_s25 x50_s25 x51_s25 x52_s25 x53_s25 x54_s25 x55_s25 x56_s25 x57_s25 x58_s25 x59_s25 x60_s25 x61_s25 x62_s25 x63_s25 x64_s25 x65_s25 x66_s25 t534 t535) = some true := H
  have A146 := Aside0.mk A1460
  clear A1460
  have H' := Aside0.mk H
  clear H
  go_wp2_with (first | ((with_reducible refine gate_callee (f := 31) rfl ?_); refine goesL_ (some 493) rfl rfl Try.func31 (by kernel_rfl) rfl #[.int .i64 x61_s25, .int .i64 x62_s25, .int .i64 x63_s25, .int .i64 x64_s25] rfl (by (try simp only [List.map_toArray, List.map_cons, List.map_nil]); first | done | rfl | (simp only [List.length_drop, List.length_take]; rfl)) ?_; (with_reducible refine (spec_Anniversaries.calls kj_s25 x61_s25 x62_s25 x63_s25 x64_s25 t534 t535 _ A146.out).mono ?_); rintro e w147 ⟨v536, rfl, ho0, hb⟩; refine ⟨_, rfl, ?_⟩; have n0_ := Aside0.mk (Kd.R_elder' (by (with_reducible repeat (first | apply Kd.R_alloc | apply Kd.R_drewN | apply Kd.R_drew)); exact HO_38.out) (Kd.R_base ho0) hb); have n1_ := Aside0.mk (Kd.R_elder' (by (with_reducible repeat (first | apply Kd.R_alloc | apply Kd.R_drewN | apply Kd.R_drew)); exact HO_45.out) (Kd.R_base ho0) hb); have n2_ := Aside0.mk (Kd.R_elder' (by (with_reducible repeat (first | apply Kd.R_alloc | apply Kd.R_drewN | apply Kd.R_drew)); exact HO_47.out) (Kd.R_base ho0) hb); have n3_ := Aside0.mk (Kd.R_elder' (by (with_reducible repeat (first | apply Kd.R_alloc | apply Kd.R_drewN | apply Kd.R_drew)); exact HO_55.out) (Kd.R_base ho0) hb); have n4_ := Aside0.mk (Kd.R_elder' (by (with_reducible repeat (first | apply Kd.R_alloc | apply Kd.R_drewN | apply Kd.R_drew)); exact HO_57.out) (Kd.R_base ho0) hb); have n5_ := Aside0.mk (Kd.R_elder' (by (with_reducible repeat (first | apply Kd.R_alloc | apply Kd.R_drewN | apply Kd.R_drew)); exact HO_59.out) (Kd.R_base ho0) hb); have n6_ := Aside0.mk (Kd.R_elder' (by (with_reducible repeat (first | apply Kd.R_alloc | apply Kd.R_drewN | apply Kd.R_drew)); exact HO_65.out) (Kd.R_base ho0) hb); have n7_ := Aside0.mk (Kd.R_lower (Kd.R_new' (Kd.R_new' (Kd.R_new' (Kd.R_new' (Kd.R_new' (Kd.R_new' (Kd.R_new' ho0 (Kd.R_lt (by (with_reducible repeat (first | apply Kd.R_alloc | apply Kd.R_drewN | apply Kd.R_drew)); exact HO_38.out))) (Kd.R_lt (by (with_reducible repeat (first | apply Kd.R_alloc | apply Kd.R_drewN | apply Kd.R_drew)); exact HO_45.out))) (Kd.R_lt (by (with_reducible repeat (first | apply Kd.R_alloc | apply Kd.R_drewN | apply Kd.R_drew)); exact HO_47.out))) (Kd.R_lt (by (with_reducible repeat (first | apply Kd.R_alloc | apply Kd.R_drewN | apply Kd.R_drew)); exact HO_55.out))) (Kd.R_lt (by (with_reducible repeat (first | apply Kd.R_alloc | apply Kd.R_drewN | apply Kd.R_drew)); exact HO_57.out))) (Kd.R_lt (by (with_reducible repeat (first | apply Kd.R_alloc | apply Kd.R_drewN | apply Kd.R_drew)); exact HO_59.out))) (Kd.R_lt (by (with_reducible repeat (first | apply Kd.R_alloc | apply Kd.R_drewN | apply Kd.R_drew)); exact HO_65.out))) (below_size (by repeat (first | (with_reducible first | exact HB.out | apply below_alloc | apply pw_below_drewN | apply below_drew1) | exact HB.out)))); have n8_ := Aside0.mk (below_step (by repeat (first | (with_reducible first | exact HB.out | apply below_alloc | apply pw_below_drewN | apply below_drew1) | exact HB.out)) hb); clear HO_38; clear HO_45; clear HO_47; clear HO_55; clear HO_57; clear HO_59; clear HO_65; clear HB; have HO_38 := n0_; have HO_45 := n1_; have HO_47 := n2_; have HO_55 := n3_; have HO_57 := n4_; have HO_59 := n5_; have HO_65 := n6_; have HO537 := n7_; have HB := n8_; clear n0_ n1_ n2_ n3_ n4_ n5_ n6_ n7_ n8_; (try clear hb); (try clear hb2); (try clear hk); (try clear hi); (try clear ho0)))
  refine hR _ _ ?_
  unfold laws_FnJubileesCome.pre26
  exact ⟨_, (x38_s25), (x39_s25), (x40_s25), (x41_s25), (x42_s25), (x43_s25), (x44_s25), (x45_s25), (x46_s25), (x47_s25), (x48_s25), (x49_s25), (x50_s25), (x51_s25), (x52_s25), (x53_s25), (x54_s25), (x55_s25), (x56_s25), (x57_s25), (x58_s25), (x59_s25), (x60_s25), (x61_s25), (x62_s25), (x63_s25), (x64_s25), (x65_s25), (x66_s25), (t534), (t535), (u38), (u45), (u47), (u55), (u57), (u59), (u65), (v536), ⟨rfl, rfl⟩, (by first | rfl | (show _ = _; simp [nthV]; done) | (simp [nthV, *]; done)), (by first | rfl | (show _ = _; simp [nthV]; done) | (simp [nthV, *]; done)), (by first | rfl | (show _ = _; simp [nthV]; done) | (simp [nthV, *]; done)), (by first | rfl | (show _ = _; simp [nthV]; done) | (simp [nthV, *]; done)), (by first | rfl | (show _ = _; simp [nthV]; done) | (simp [nthV, *]; done)), (by first | rfl | (show _ = _; simp [nthV]; done) | (simp [nthV, *]; done)), (by first | rfl | (show _ = _; simp [nthV]; done) | (simp [nthV, *]; done)), (by first | rfl | (show _ = _; simp [nthV]; done) | (simp [nthV, *]; done)), (by first | rfl | (show _ = _; simp [nthV]; done) | (simp [nthV, *]; done)), (by first | rfl | (show _ = _; simp [nthV]; done) | (simp [nthV, *]; done)), (by first | rfl | (show _ = _; simp [nthV]; done) | (simp [nthV, *]; done)), (by first | rfl | (show _ = _; simp [nthV]; done) | (simp [nthV, *]; done)), (by first | rfl | (show _ = _; simp [nthV]; done) | (simp [nthV, *]; done)), (by first | rfl | (show _ = _; simp [nthV]; done) | (simp [nthV, *]; done)), (by first | rfl | (show _ = _; simp [nthV]; done) | (simp [nthV, *]; done)), (by first | rfl | (show _ = _; simp [nthV]; done) | (simp [nthV, *]; done)), (by first | rfl | (show _ = _; simp [nthV]; done) | (simp [nthV, *]; done)), (by first | rfl | (show _ = _; simp [nthV]; done) | (simp [nthV, *]; done)), (by first | rfl | (show _ = _; simp [nthV]; done) | (simp [nthV, *]; done)), (by first | rfl | (show _ = _; simp [nthV]; done) | (simp [nthV, *]; done)), (by first | rfl | (show _ = _; simp [nthV]; done) | (simp [nthV, *]; done)), (by first | rfl | (show _ = _; simp [nthV]; done) | (simp [nthV, *]; done)), (by first | rfl | (show _ = _; simp [nthV]; done) | (simp [nthV, *]; done)), (by first | rfl | (show _ = _; simp [nthV]; done) | (simp [nthV, *]; done)), (by first | rfl | (show _ = _; simp [nthV]; done) | (simp [nthV, *]; done)), (by first | rfl | (show _ = _; simp [nthV]; done) | (simp [nthV, *]; done)), (by first | rfl | (show _ = _; simp [nthV]; done) | (simp [nthV, *]; done)), (by first | rfl | (show _ = _; simp [nthV]; done) | (simp [nthV, *]; done)), (by first | rfl | (show _ = _; simp [nthV]; done) | (simp [nthV, *]; done)), (by first | rfl | (show _ = _; simp [nthV]; done) | (simp [nthV, *]; done)), (by first | rfl | (show _ = _; simp [nthV]; done) | (simp [nthV, *]; done)), H', ⟨by (with_reducible repeat (first | apply Kd.R_alloc | apply Kd.R_drewN | apply Kd.R_drew)); exact Kd.R_mono HO_38.out (fun _ hk => ⟨hk.1.1, ⟨hk.1.2.1, ⟨hk.1.2.2.1, ⟨hk.1.2.2.2.1, ⟨hk.1.2.2.2.2.1, ⟨hk.1.2.2.2.2.2, hk.2⟩⟩⟩⟩⟩⟩)⟩, ⟨by (with_reducible repeat (first | apply Kd.R_alloc | apply Kd.R_drewN | apply Kd.R_drew)); exact Kd.R_mono HO_45.out (fun _ hk => ⟨hk.1.1, ⟨hk.1.2.1, ⟨hk.1.2.2.1, ⟨hk.1.2.2.2.1, ⟨hk.1.2.2.2.2.1, ⟨hk.1.2.2.2.2.2, hk.2⟩⟩⟩⟩⟩⟩)⟩, ⟨by (with_reducible repeat (first | apply Kd.R_alloc | apply Kd.R_drewN | apply Kd.R_drew)); exact Kd.R_mono HO_47.out (fun _ hk => ⟨hk.1.1, ⟨hk.1.2.1, ⟨hk.1.2.2.1, ⟨hk.1.2.2.2.1, ⟨hk.1.2.2.2.2.1, ⟨hk.1.2.2.2.2.2, hk.2⟩⟩⟩⟩⟩⟩)⟩, ⟨by (with_reducible repeat (first | apply Kd.R_alloc | apply Kd.R_drewN | apply Kd.R_drew)); exact Kd.R_mono HO_55.out (fun _ hk => ⟨hk.1.1, ⟨hk.1.2.1, ⟨hk.1.2.2.1, ⟨hk.1.2.2.2.1, ⟨hk.1.2.2.2.2.1, ⟨hk.1.2.2.2.2.2, hk.2⟩⟩⟩⟩⟩⟩)⟩, ⟨by (with_reducible repeat (first | apply Kd.R_alloc | apply Kd.R_drewN | apply Kd.R_drew)); exact Kd.R_mono HO_57.out (fun _ hk => ⟨hk.1.1, ⟨hk.1.2.1, ⟨hk.1.2.2.1, ⟨hk.1.2.2.2.1, ⟨hk.1.2.2.2.2.1, ⟨hk.1.2.2.2.2.2, hk.2⟩⟩⟩⟩⟩⟩)⟩, ⟨by (with_reducible repeat (first | apply Kd.R_alloc | apply Kd.R_drewN | apply Kd.R_drew)); exact Kd.R_mono HO_59.out (fun _ hk => ⟨hk.1.1, ⟨hk.1.2.1, ⟨hk.1.2.2.1, ⟨hk.1.2.2.2.1, ⟨hk.1.2.2.2.2.1, ⟨hk.1.2.2.2.2.2, hk.2⟩⟩⟩⟩⟩⟩)⟩, ⟨by (with_reducible repeat (first | apply Kd.R_alloc | apply Kd.R_drewN | apply Kd.R_drew)); exact Kd.R_mono HO_65.out (fun _ hk => ⟨hk.1.1, ⟨hk.1.2.1, ⟨hk.1.2.2.1, ⟨hk.1.2.2.2.1, ⟨hk.1.2.2.2.2.1, ⟨hk.1.2.2.2.2.2, hk.2⟩⟩⟩⟩⟩⟩)⟩, ⟨by (with_reducible repeat (first | apply Kd.R_alloc | apply Kd.R_drewN | apply Kd.R_drew)); exact Kd.R_mono HO537.out (fun _ hk => ⟨hk.1.1.1.1.1.1.2, ⟨hk.1.1.1.1.1.2, ⟨hk.1.1.1.1.2, ⟨hk.1.1.1.2, ⟨hk.1.1.2, ⟨hk.1.2, hk.2⟩⟩⟩⟩⟩⟩)⟩, ⟨by repeat (first | (with_reducible first | exact HB.out | apply below_alloc | apply pw_below_drewN | apply below_drew1) | exact HB.out)⟩⟩

end Go.Proofs.Ytiacjmaofdimgaa.PFnJubileesCome
