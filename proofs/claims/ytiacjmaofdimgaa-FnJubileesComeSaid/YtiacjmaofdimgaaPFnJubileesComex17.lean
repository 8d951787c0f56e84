-- written by the print program turned for this claim
import Derived.Test.YtiacjmaofdimgaaPFnJubileesComex0
import Derived.Test.YtiacjmaofdimgaaPFnJubileesComex5
import Derived.Test.YtiacjmaofdimgaaPFnJubileesComex8
import Derived.Test.YtiacjmaofdimgaaPFnJubileesComex9
import Derived.Test.YtiacjmaofdimgaaPFnJubileesComex14
namespace Go.Proofs.Ytiacjmaofdimgaa.PFnJubileesCome
open Go.RowKit Go.Proofs.YtiacjmaofdimgaaW.PrintWords Go.Proofs.YtiacjmaofdimgaaW.PrintLast Go.Proofs.YtiacjmaofdimgaaW.PrintMore
attribute [local go_sem] max2_int min2_int max_two min_two max_three min_three max_four min_four   -- for this text's walks alone
set_option linter.unusedVariables false
set_option linter.unusedSimpArgs false

set_option maxHeartbeats 40000000 in
set_option maxRecDepth 100000 in
theorem laws_FnJubileesCome.st26c (A0 : Option Addr) (c0 : Nat) (l0 : List Int) (A1 : Option Addr) (c1 : Nat) (l1 : List Int) (w : World) (hr0 : Kd.C (Kd.int .u8) w A0 l0.length l0) (hc0 : l0.length ≤ c0) (hr1 : Kd.C (Kd.int .u8) w A1 l1.length l1) (hc1 : l1.length ≤ c1) (R : Code) (hR : ∀ (a' : Act) (wc : World), laws_FnJubileesCome.pre27 A0 c0 l0 A1 c1 l1 w a' wc → Code.wp Try.prog R (bodyPost Try.prog Try.f3 (fun e w' => e = .returned (.bool true) ∧ Below w.heap.size w w')) a' wc) (a' : Act) (wc : World) (h46 : nthV a'.tmps.toList 46 = .bool true) (h42 : nthV a'.tmps.toList 42 = .bool false) (hP : laws_FnJubileesCome.pre26 A0 c0 l0 A1 c1 l1 w a' wc) :
    Code.wp Try.prog (laws_FnJubileesCome.code26 R) (bodyPost Try.prog Try.f3 (fun e w' => e = .returned (.bool true) ∧ Below w.heap.size w w')) a' wc := by
  have HR0 := Aside0.mk hr0
  have HC0 := Aside0.mk hc0
  clear hr0 hc0
  have HR1 := Aside0.mk hr1
  have HC1 := Aside0.mk hc1
  clear hr1 hc1
  unfold laws_FnJubileesCome.pre26 at hP
  obtain ⟨kq, x38_s26, x39_s26, x40_s26, x41_s26, x42_s26, x43_s26, x44_s26, x45_s26, x46_s26, x47_s26, x48_s26, x49_s26, x50_s26, x51_s26, x52_s26, x53_s26, x54_s26, x55_s26, x56_s26, x57_s26, x58_s26, x59_s26, x60_s26, x61_s26, x62_s26, x63_s26, x64_s26, x65_s26, x66_s26, x67_s26, x68_s26, u38, u45, u47, u55, u57, u59, u65, u67, ⟨hlen, hdef⟩, hq38, hq39, hq40, hq41, hq42, hq43, hq44, hq45, hq46, hq47, hq48, hq49, hq50, hq51, hq52, hq53, hq54, hq55, hq56, hq57, hq58, hq59, hq60, hq61, hq62, hq63, hq64, hq65, hq66, hq67, hq68, HA, HO_38, HO_45, HO_47, HO_55, HO_57, HO_59, HO_65, HO_67, HB⟩ := hP
  have e46 : x46_s26 = true := Value.bool.inj (hq46.symm.trans h46)
  have e42 : x42_s26 = false := Value.bool.inj (hq42.symm.trans h42)
  clear h46 h42
  obtain ⟨uf, rfl⟩ := laws_FnJubileesCome.frame a' hlen hdef
  clear hlen hdef
  have he38 : uf 38 = u38 := hq38
  clear hq38
  have he39 : uf 39 = .int .i64 x39_s26 := hq39
  clear hq39
  have he40 : uf 40 = .int .i64 x40_s26 := hq40
  clear hq40
  have he41 : uf 41 = .int .i64 x41_s26 := hq41
  clear hq41
  have he42 : uf 42 = .bool x42_s26 := hq42
  clear hq42
  have he43 : uf 43 = .int .i64 x43_s26 := hq43
  clear hq43
  have he44 : uf 44 = .bool x44_s26 := hq44
  clear hq44
  have he45 : uf 45 = u45 := hq45
  clear hq45
  have he46 : uf 46 = .bool x46_s26 := hq46
  clear hq46
  have he47 : uf 47 = u47 := hq47
  clear hq47
  have he48 : uf 48 = .bool x48_s26 := hq48
  clear hq48
  have he49 : uf 49 = .int .i64 x49_s26 := hq49
  clear hq49
  have he50 : uf 50 = .int .i64 x50_s26 := hq50
  clear hq50
  have he51 : uf 51 = .bool x51_s26 := hq51
  clear hq51
  have he52 : uf 52 = .int .i64 x52_s26 := hq52
  clear hq52
  have he53 : uf 53 = .int .i64 x53_s26 := hq53
  clear hq53
  have he54 : uf 54 = .bool x54_s26 := hq54
  clear hq54
  have he55 : uf 55 = u55 := hq55
  clear hq55
  have he56 : uf 56 = .int .i64 x56_s26 := hq56
  clear hq56
  have he57 : uf 57 = u57 := hq57
  clear hq57
  have he58 : uf 58 = .bool x58_s26 := hq58
  clear hq58
  have he59 : uf 59 = u59 := hq59
  clear hq59
  have he60 : uf 60 = .bool x60_s26 := hq60
  clear hq60
  have he61 : uf 61 = .int .i64 x61_s26 := hq61
  clear hq61
  have he62 : uf 62 = .int .i64 x62_s26 := hq62
  clear hq62
  have he63 : uf 63 = .int .i64 x63_s26 := hq63
  clear hq63
  have he64 : uf 64 = .int .i64 x64_s26 := hq64
  clear hq64
  have he65 : uf 65 = u65 := hq65
  clear hq65
  have he66 : uf 66 = .bool x66_s26 := hq66
  clear hq66
  have he67 : uf 67 = u67 := hq67
  clear hq67
  have he68 : uf 68 = .bool x68_s26 := hq68
  clear hq68
  simp only [he38, he39, he40, he41, he42, he43, he44, he45, he46, he47, he48, he49, he50, he51, he52, he53, he54, he55, he56, he57, he58, he59, he60, he61, he62, he63, he64, he65, he66, he67, he68]
  clear he38 he39 he40 he41 he42 he43 he44 he45 he46 he47 he48 he49 he50 he51 he52 he53 he54 he55 he56 he57 he58 he59 he60 he61 he62 he63 he64 he65 he66 he67 he68
  dsimp only [laws_FnJubileesCome.code26, withTail, dropSeq, Try.f3, Option.getD]
  rcases kq with _ | kj_s26
  · exact absurd HA.out (by simp [laws_FnJubileesCome.j15])
  have H := HA.out
  clear HA
  simp only [laws_FnJubileesCome.j15] at H
  by_cases c148 : (x42_s26 != x44_s26) = true
  · rw [if_pos c148] at H
    have c148b0 : (x42_s26 != x44_s26) = true := c148
    (try (have c148b1 : decide (x42_s26 = x44_s26) = false := by simpa using c148))
    (try (have c148b2 : (x42_s26 == x44_s26) = false := by simpa using c148))
    (try (have c148b3 : ¬ (x42_s26 = x44_s26) := by simpa using c148))
    clear c148
    exact absurd H (by simp)
  rw [if_neg c148] at H
  have c148b0 : (x42_s26 != x44_s26) = false := by simpa using c148
  (try (have c148b1 : decide (x42_s26 = x44_s26) = true := by simpa using c148))
  (try (have c148b2 : (x42_s26 == x44_s26) = true := by simpa using c148))
  clear c148
  by_cases c149 : x41_s26 = x43_s26
  rotate_left
  · rw [if_neg c149] at H
    have c149b0 : (x41_s26 == x43_s26) = false := beq_eq_false_iff_ne.mpr c149
    have c149b1 : (x41_s26 != x43_s26) = true := bne_iff_ne.mpr c149
    exact absurd H (by simp)
  rw [if_pos c149] at H
  have c149b0 : (x41_s26 == x43_s26) = true := beq_iff_eq.mpr c149
  have c149b1 : (x41_s26 != x43_s26) = false := bne_eq_false_iff_eq.mpr c149
  clear c149
  by_cases c150 : (x46_s26 != x48_s26) = true
  · rw [if_pos c150] at H
    have c150b0 : (x46_s26 != x48_s26) = true := c150
    (try (have c150b1 : decide (x46_s26 = x48_s26) = false := by simpa using c150))
    (try (have c150b2 : (x46_s26 == x48_s26) = false := by simpa using c150))
    (try (have c150b3 : ¬ (x46_s26 = x48_s26) := by simpa using c150))
    clear c150
    exact absurd H (by simp)
  rw [if_neg c150] at H
  have c150b0 : (x46_s26 != x48_s26) = false := by simpa using c150
  (try (have c150b1 : decide (x46_s26 = x48_s26) = true := by simpa using c150))
  (try (have c150b2 : (x46_s26 == x48_s26) = true := by simpa using c150))
  clear c150
  replace H := Option.bind_eq_some_iff.mp H
  obtain ⟨t538, A1510, H⟩ := H
  (try dsimp only at H)
  have A151 := Aside0.mk A1510
  clear A1510
  by_cases c152 : t538 = true
  rotate_left
  · replace c152 := Bool.eq_false_iff.mpr c152
    subst c152
    have H1 : (some false) = some true := by rw [if_neg (show ¬ (false = true) by decide)] at H; first | done | exact H
    clear H
    have H := H1
    clear H1
    exact absurd H (by simp)
  subst c152
  have H1 : (if (x51_s26 != x54_s26) = true then (some false) else (if x49_s26 = x52_s26 then (if x50_s26 = x53_s26 then (if (x58_s26 != x60_s26) = true then (some false) else ((laws_qSame.f kj_s26 x57_s26 x59_s26).bind fun t539 => (if t539 = true then (if (x66_s26 != x68_s26) = true then (some false) else ((laws_qSame.f kj_s26 x65_s26 x67_s26).bind fun t540 => (if t540 = true then (if x46_s26 = true then (if (x51_s26 != (decide ((x45_s26.length : Int) > 0))) = true then (some false) else (if x42_s26 = true then (laws_FnJubileesCome.j16 kj_s26 x38_s26 x39_s26 x40_s26 x41_s26 x42_s26 x45_s26 x46_s26 x49_s26 x50_s26 x51_s26 x55_s26 x56_s26 x57_s26 x58_s26 x61_s26 x62_s26 x63_s26 x64_s26 x65_s26 x66_s26) else (laws_FnJubileesCome.j16 kj_s26 x38_s26 x39_s26 x40_s26 x41_s26 x42_s26 x45_s26 x46_s26 x49_s26 x50_s26 x51_s26 x55_s26 x56_s26 x57_s26 x58_s26 x61_s26 x62_s26 x63_s26 x64_s26 x65_s26 x66_s26))) else (if (x51_s26 != false) = true then (some false) else (if x42_s26 = true then (some false) else (laws_FnJubileesCome.j16 kj_s26 x38_s26 x39_s26 x40_s26 x41_s26 x42_s26 x45_s26 x46_s26 x49_s26 x50_s26 x51_s26 x55_s26 x56_s26 x57_s26 x58_s26 x61_s26 x62_s26 x63_s26 x64_s26 x65_s26 x66_s26)))) else (some false)))) else (some false)))) else (some false)) else (some false))) = some true := by rw [if_pos rfl] at H; first | done | exact H
  clear H
  have H := H1
  clear H1
  by_cases c153 : (x51_s26 != x54_s26) = true
  · rw [if_pos c153] at H
    have c153b0 : (x51_s26 != x54_s26) = true := c153
    (try (have c153b1 : decide (x51_s26 = x54_s26) = false := by simpa using c153))
    (try (have c153b2 : (x51_s26 == x54_s26) = false := by simpa using c153))
    (try (have c153b3 : ¬ (x51_s26 = x54_s26) := by simpa using c153))
    clear c153
    exact absurd H (by simp)
  rw [if_neg c153] at H
  have c153b0 : (x51_s26 != x54_s26) = false := by simpa using c153
  (try (have c153b1 : decide (x51_s26 = x54_s26) = true := by simpa using c153))
  (try (have c153b2 : (x51_s26 == x54_s26) = true := by simpa using c153))
  clear c153
  by_cases c154 : x49_s26 = x52_s26
  rotate_left
  · rw [if_neg c154] at H
    have c154b0 : (x49_s26 == x52_s26) = false := beq_eq_false_iff_ne.mpr c154
    have c154b1 : (x49_s26 != x52_s26) = true := bne_iff_ne.mpr c154
    exact absurd H (by simp)
  rw [if_pos c154] at H
  have c154b0 : (x49_s26 == x52_s26) = true := beq_iff_eq.mpr c154
  have c154b1 : (x49_s26 != x52_s26) = false := bne_eq_false_iff_eq.mpr c154
  clear c154
  by_cases c155 : x50_s26 = x53_s26
  rotate_left
  · rw [if_neg c155] at H
    have c155b0 : (x50_s26 == x53_s26) = false := beq_eq_false_iff_ne.mpr c155
    have c155b1 : (x50_s26 != x53_s26) = true := bne_iff_ne.mpr c155
    exact absurd H (by simp)
  rw [if_pos c155] at H
  have c155b0 : (x50_s26 == x53_s26) = true := beq_iff_eq.mpr c155
  have c155b1 : (x50_s26 != x53_s26) = false := bne_eq_false_iff_eq.mpr c155
  clear c155
  by_cases c156 : (x58_s26 != x60_s26) = true
  · rw [if_pos c156] at H
    have c156b0 : (x58_s26 != x60_s26) = true := c156
    (try (have c156b1 : decide (x58_s26 = x60_s26) = false := by simpa using c156))
    (try (have c156b2 : (x58_s26 == x60_s26) = false := by simpa using c156))
    (try (have c156b3 : ¬ (x58_s26 = x60_s26) := by simpa using c156))
    clear c156
    exact absurd H (by simp)
  rw [if_neg c156] at H
  have c156b0 : (x58_s26 != x60_s26) = false := by simpa using c156
  (try (have c156b1 : decide (x58_s26 = x60_s26) = true := by simpa using c156))
  (try (have c156b2 : (x58_s26 == x60_s26) = true := by simpa using c156))
  clear c156
  replace H := Option.bind_eq_some_iff.mp H
  obtain ⟨t539, A1570, H⟩ := H
  (try dsimp only at H)
  have A157 := Aside0.mk A1570
  clear A1570
  by_cases c158 : t539 = true
  rotate_left
  · replace c158 := Bool.eq_false_iff.mpr c158
    subst c158
    have H1 : (some false) = some true := by rw [if_neg (show ¬ (false = true) by decide)] at H; first | done | exact H
    clear H
    have H := H1
    clear H1
    exact absurd H (by simp)
  subst c158
  have H1 : (if (x66_s26 != x68_s26) = true then (some false) else ((laws_qSame.f kj_s26 x65_s26 x67_s26).bind fun t540 => (if t540 = true then (if x46_s26 = true then (if (x51_s26 != (decide ((x45_s26.length : Int) > 0))) = true then (some false) else (if x42_s26 = true then (laws_FnJubileesCome.j16 kj_s26 x38_s26 x39_s26 x40_s26 x41_s26 x42_s26 x45_s26 x46_s26 x49_s26 x50_s26 x51_s26 x55_s26 x56_s26 x57_s26 x58_s26 x61_s26 x62_s26 x63_s26 x64_s26 x65_s26 x66_s26) else (laws_FnJubileesCome.j16 kj_s26 x38_s26 x39_s26 x40_s26 x41_s26 x42_s26 x45_s26 x46_s26 x49_s26 x50_s26 x51_s26 x55_s26 x56_s26 x57_s26 x58_s26 x61_s26 x62_s26 x63_s26 x64_s26 x65_s26 x66_s26))) else (if (x51_s26 != false) = true then (some false) else (if x42_s26 = true then (some false) else (laws_FnJubileesCome.j16 kj_s26 x38_s26 x39_s26 x40_s26 x41_s26 x42_s26 x45_s26 x46_s26 x49_s26 x50_s26 x51_s26 x55_s26 x56_s26 x57_s26 x58_s26 x61_s26 x62_s26 x63_s26 x64_s26 x65_s26 x66_s26)))) else (some false)))) = some true := by rw [if_pos rfl] at H; first | done | exact H
  clear H
  have H := H1
  clear H1
  by_cases c159 : (x66_s26 != x68_s26) = true
  · rw [if_pos c159] at H
    have c159b0 : (x66_s26 != x68_s26) = true := c159
    (try (have c159b1 : decide (x66_s26 = x68_s26) = false := by simpa using c159))
    (try (have c159b2 : (x66_s26 == x68_s26) = false := by simpa using c159))
    (try (have c159b3 : ¬ (x66_s26 = x68_s26) := by simpa using c159))
    clear c159
    exact absurd H (by simp)
  rw [if_neg c159] at H
  have c159b0 : (x66_s26 != x68_s26) = false := by simpa using c159
  (try (have c159b1 : decide (x66_s26 = x68_s26) = true := by simpa using c159))
  (try (have c159b2 : (x66_s26 == x68_s26) = true := by simpa using c159))
  clear c159
  replace H := Option.bind_eq_some_iff.mp H
  obtain ⟨t540, A1600, H⟩ := H
  (try dsimp only at H)
  have A160 := Aside0.mk A1600
  clear A1600
  by_cases c161 : t540 = true
  rotate_left
  · replace c161 := Bool.eq_false_iff.mpr c161
    subst c161
    have H1 : (some false) = some true := by rw [if_neg (show ¬ (false = true) by decide)] at H; first | done | exact H
    clear H
    have H := H1
    clear H1
    exact absurd H (by simp)
  subst c161
  have H1 : (if x46_s26 = true then (if (x51_s26 != (decide ((x45_s26.length : Int) > 0))) = true then (some false) else (if x42_s26 = true then (laws_FnJubileesCome.j16 kj_s26 x38_s26 x39_s26 x40_s26 x41_s26 x42_s26 x45_s26 x46_s26 x49_s26 x50_s26 x51_s26 x55_s26 x56_s26 x57_s26 x58_s26 x61_s26 x62_s26 x63_s26 x64_s26 x65_s26 x66_s26) else (laws_FnJubileesCome.j16 kj_s26 x38_s26 x39_s26 x40_s26 x41_s26 x42_s26 x45_s26 x46_s26 x49_s26 x50_s26 x51_s26 x55_s26 x56_s26 x57_s26 x58_s26 x61_s26 x62_s26 x63_s26 x64_s26 x65_s26 x66_s26))) else (if (x51_s26 != false) = true then (some false) else (if x42_s26 = true then (some false) else (laws_FnJubileesCome.j16 kj_s26 x38_s26 x39_s26 x40_s26 x41_s26 x42_s26 x45_s26 x46_s26 x49_s26 x50_s26 x51_s26 x55_s26 x56_s26 x57_s26 x58_s26 x61_s26 x62_s26 x63_s26 x64_s26 x65_s26 x66_s26)))) = some true := by rw [if_pos rfl] at H; first | done | exact H
  clear H
  have H := H1
  clear H1
  by_cases c162 : x46_s26 = true
  rotate_left
  · exact absurd e46 c162
  subst c162
  have H1 : (if (x51_s26 != (decide ((x45_s26.length : Int) > 0))) = true then (some false) else (if x42_s26 = true then (laws_FnJubileesCome.j16 kj_s26 x38_s26 x39_s26 x40_s26 x41_s26 x42_s26 x45_s26 true x49_s26 x50_s26 x51_s26 x55_s26 x56_s26 x57_s26 x58_s26 x61_s26 x62_s26 x63_s26 x64_s26 x65_s26 x66_s26) else (laws_FnJubileesCome.j16 kj_s26 x38_s26 x39_s26 x40_s26 x41_s26 x42_s26 x45_s26 true x49_s26 x50_s26 x51_s26 x55_s26 x56_s26 x57_s26 x58_s26 x61_s26 x62_s26 x63_s26 x64_s26 x65_s26 x66_s26))) = some true := by rw [if_pos rfl] at H; first | done | exact H
  clear H
  have H := H1
  clear H1
  by_cases c163 : (x51_s26 != (decide ((x45_s26.length : Int) > 0))) = true
  · rw [if_pos c163] at H
    have c163b0 : (x51_s26 != (decide ((x45_s26.length : Int) > 0))) = true := c163
    (try (have c163b1 : decide (x51_s26 = (decide ((x45_s26.length : Int) > 0))) = false := by simpa using c163))
    (try (have c163b2 : (x51_s26 == (decide ((x45_s26.length : Int) > 0))) = false := by simpa using c163))
    (try (have c163b3 : ¬ (x51_s26 = (decide ((x45_s26.length : Int) > 0))) := by simpa using c163))
    (try (have c163b4 : decide (x51_s26 = (decide (0 < x45_s26.length))) = false := by simpa using c163))
    (try (have c163b5 : (x51_s26 == (decide (0 < x45_s26.length))) = false := by simpa using c163))
    (try (have c163b6 : ¬ (x51_s26 = (decide (0 < x45_s26.length))) := by simpa using c163))
    clear c163
    exact absurd H (by simp)
  rw [if_neg c163] at H
  have c163b0 : (x51_s26 != (decide ((x45_s26.length : Int) > 0))) = false := by simpa using c163
  (try (have c163b1 : decide (x51_s26 = (decide ((x45_s26.length : Int) > 0))) = true := by simpa using c163))
  (try (have c163b2 : (x51_s26 == (decide ((x45_s26.length : Int) > 0))) = true := by simpa using c163))
  (try (have c163b3 : decide (x51_s26 = (decide (0 < x45_s26.length))) = true := by simpa using c163))
  (try (have c163b4 : (x51_s26 == (decide (0 < x45_s26.length))) = true := by simpa using c163))
  clear c163
  by_cases c164 : x42_s26 = true
  · exact absurd (e42.symm.trans c164) (by decide)
  replace c164 := Bool.eq_false_iff.mpr c164
  subst c164
  have H1 : (laws_FnJubileesCome.j16 kj_s26 x38_s26 x39_s26 x40_s26 x41_s26 false x45_s26 true x49_s26 x50_s26 x51_s26 x55_s26 x56_s26 x57_s26 x58_s26 x61_s26 x62_s26 x63_s26 x64_s26 x65_s26 x66_s26) = some true := by rw [if_neg (show ¬ (false = true) by decide)] at H; first | done | exact H
  clear H
  have H := H1
  clear H1
  have H' := Aside0.mk H
  clear H
  obtain ⟨Ao171, co171, eo171⟩ := Kd.R_slice HO_45.out
  subst eo171
  obtain ⟨Ao172, co172, eo172⟩ := Kd.R_slice HO_47.out
  subst eo172
  try clear e46
  try clear e42
  go_wp2_with (first | (go_at_call 19; (with_reducible refine (laws_qSame.calls kj_s26 _ _ x45_s26 _ _ x47_s26 true _ ?side1 ?side2 ?side3 ?side4 A151.out).mono ?_); (case side1 => repeat (first | exact (Kd.R_reads' HO_45.out).2.2 | (with_reducible refine Kd.C_alloc ?_ _) | (with_reducible refine Kd.C_drewN ?_ _) | (with_reducible refine Kd.C_drew ?_))); (case side2 => exact (Kd.R_reads' HO_45.out).2.1); (case side3 => repeat (first | exact (Kd.R_reads' HO_47.out).2.2 | (with_reducible refine Kd.C_alloc ?_ _) | (with_reducible refine Kd.C_drewN ?_ _) | (with_reducible refine Kd.C_drew ?_))); (case side4 => exact (Kd.R_reads' HO_47.out).2.1); rintro e w' ⟨rfl, ⟨nd, rfl⟩⟩; obtain ⟨Ao173, co173, eo173⟩ := Kd.R_slice HO_57.out; subst eo173; obtain ⟨Ao174, co174, eo174⟩ := Kd.R_slice HO_59.out; subst eo174) | (go_at_call 19; (with_reducible refine (laws_qSame.calls kj_s26 _ _ x57_s26 _ _ x59_s26 true _ ?side1 ?side2 ?side3 ?side4 A157.out).mono ?_); (case side1 => repeat (first | exact (Kd.R_reads' HO_57.out).2.2 | (with_reducible refine Kd.C_alloc ?_ _) | (with_reducible refine Kd.C_drewN ?_ _) | (with_reducible refine Kd.C_drew ?_))); (case side2 => exact (Kd.R_reads' HO_57.out).2.1); (case side3 => repeat (first | exact (Kd.R_reads' HO_59.out).2.2 | (with_reducible refine Kd.C_alloc ?_ _) | (with_reducible refine Kd.C_drewN ?_ _) | (with_reducible refine Kd.C_drew ?_))); (case side4 => exact (Kd.R_reads' HO_59.out).2.1); rintro e w' ⟨rfl, ⟨nd, rfl⟩⟩; obtain ⟨Ao175, co175, eo175⟩ := Kd.R_slice HO_65.out; subst eo175; obtain ⟨Ao176, co176, eo176⟩ := Kd.R_slice HO_67.out; subst eo176) | (go_at_call 19; (with_reducible refine (laws_qSame.calls kj_s26 _ _ x65_s26 _ _ x67_s26 true _ ?side1 ?side2 ?side3 ?side4 A160.out).mono ?_); (case side1 => repeat (first | exact (Kd.R_reads' HO_65.out).2.2 | (with_reducible refine Kd.C_alloc ?_ _) | (with_reducible refine Kd.C_drewN ?_ _) | (with_reducible refine Kd.C_drew ?_))); (case side2 => exact (Kd.R_reads' HO_65.out).2.1); (case side3 => repeat (first | exact (Kd.R_reads' HO_67.out).2.2 | (with_reducible refine Kd.C_alloc ?_ _) | (with_reducible refine Kd.C_drewN ?_ _) | (with_reducible refine Kd.C_drew ?_))); (case side4 => exact (Kd.R_reads' HO_67.out).2.1); rintro e w' ⟨rfl, ⟨nd, rfl⟩⟩))
  refine hR _ _ ?_
  unfold laws_FnJubileesCome.pre27
  exact ⟨_, (x38_s26), (x39_s26), (x40_s26), (x41_s26), (false), (x45_s26), (true), (x49_s26), (x50_s26), (x51_s26), (x55_s26), (x56_s26), (x57_s26), (x58_s26), (x61_s26), (x62_s26), (x63_s26), (x64_s26), (x65_s26), (x66_s26), (u38), (.slice Ao171 x45_s26.length co171), (u55), (.slice Ao173 x57_s26.length co173), (.slice Ao175 x65_s26.length co175), ⟨rfl, rfl⟩, (by first | rfl | (show _ = _; simp [nthV]; done) | (simp [nthV, *]; done)), (by first | rfl | (show _ = _; simp [nthV]; done) | (simp [nthV, *]; done)), (by first | rfl | (show _ = _; simp [nthV]; done) | (simp [nthV, *]; done)), (by first | rfl | (show _ = _; simp [nthV]; done) | (simp [nthV, *]; done)), (by first | rfl | (show _ = _; simp [nthV]; done) | (simp [nthV, *]; done)), (by first | rfl | (show _ = _; simp [nthV]; done) | (simp [nthV, *]; done)), (by first | rfl | (show _ = _; simp [nthV]; done) | (simp [nthV, *]; done)), (by first | rfl | (show _ = _; simp [nthV]; done) | (simp [nthV, *]; done)), (by first | rfl | (show _ = _; simp [nthV]; done) | (simp [nthV, *]; done)), (by first | rfl | (show _ = _; simp [nthV]; done) | (simp [nthV, *]; done)), (by first | rfl | (show _ = _; simp [nthV]; done) | (simp [nthV, *]; done)), (by first | rfl | (show _ = _; simp [nthV]; done) | (simp [nthV, *]; done)), (by first | rfl | (show _ = _; simp [nthV]; done) | (simp [nthV, *]; done)), (by first | rfl | (show _ = _; simp [nthV]; done) | (simp [nthV, *]; done)), (by first | rfl | (show _ = _; simp [nthV]; done) | (simp [nthV, *]; done)), (by first | rfl | (show _ = _; simp [nthV]; done) | (simp [nthV, *]; done)), (by first | rfl | (show _ = _; simp [nthV]; done) | (simp [nthV, *]; done)), (by first | rfl | (show _ = _; simp [nthV]; done) | (simp [nthV, *]; done)), (by first | rfl | (show _ = _; simp [nthV]; done) | (simp [nthV, *]; done)), (by first | rfl | (show _ = _; simp [nthV]; done) | (simp [nthV, *]; done)), H', ⟨by (with_reducible repeat (first | apply Kd.R_alloc | apply Kd.R_drewN | apply Kd.R_drew)); exact Kd.R_mono HO_38.out (fun _ hk => ⟨hk.1, ⟨hk.2.2.1, ⟨hk.2.2.2.1, hk.2.2.2.2.2.1⟩⟩⟩)⟩, ⟨by (with_reducible repeat (first | apply Kd.R_alloc | apply Kd.R_drewN | apply Kd.R_drew)); exact Kd.R_mono HO_45.out (fun _ hk => ⟨hk.1, ⟨hk.2.2.1, ⟨hk.2.2.2.1, hk.2.2.2.2.2.1⟩⟩⟩)⟩, ⟨by (with_reducible repeat (first | apply Kd.R_alloc | apply Kd.R_drewN | apply Kd.R_drew)); exact Kd.R_mono HO_55.out (fun _ hk => ⟨hk.1, ⟨hk.2.1, ⟨hk.2.2.2.1, hk.2.2.2.2.2.1⟩⟩⟩)⟩, ⟨by (with_reducible repeat (first | apply Kd.R_alloc | apply Kd.R_drewN | apply Kd.R_drew)); exact Kd.R_mono HO_57.out (fun _ hk => ⟨hk.1, ⟨hk.2.1, ⟨hk.2.2.2.1, hk.2.2.2.2.2.1⟩⟩⟩)⟩, ⟨by (with_reducible repeat (first | apply Kd.R_alloc | apply Kd.R_drewN | apply Kd.R_drew)); exact Kd.R_mono HO_65.out (fun _ hk => ⟨hk.1, ⟨hk.2.1, ⟨hk.2.2.2.1, hk.2.2.2.2.1⟩⟩⟩)⟩, ⟨by repeat (first | (with_reducible first | exact HB.out | apply below_alloc | apply pw_below_drewN | apply below_drew1) | exact HB.out)⟩⟩
end Go.Proofs.Ytiacjmaofdimgaa.PFnJubileesCome
