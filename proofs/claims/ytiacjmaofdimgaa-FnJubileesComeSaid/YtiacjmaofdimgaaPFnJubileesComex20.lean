-- written by the print program turned for this claim
import Derived.Test.YtiacjmaofdimgaaPFnJubileesComex0
import Derived.Test.YtiacjmaofdimgaaPFnJubileesComex1
import Derived.Test.YtiacjmaofdimgaaPFnJubileesComex2
import Derived.Test.YtiacjmaofdimgaaPFnJubileesComex3
import Derived.Test.YtiacjmaofdimgaaPFnJubileesComex4
import Derived.Test.YtiacjmaofdimgaaPFnJubileesComex5
import Derived.Test.YtiacjmaofdimgaaPFnJubileesComex9
namespace Go.Proofs.Ytiacjmaofdimgaa.PFnJubileesCome
open Go.RowKit Go.Proofs.YtiacjmaofdimgaaW.PrintWords Go.Proofs.YtiacjmaofdimgaaW.PrintLast Go.Proofs.YtiacjmaofdimgaaW.PrintMore
attribute [local go_sem] max2_int min2_int max_two min_two max_three min_three max_four min_four   -- for this text's walks alone
set_option linter.unusedVariables false
set_option linter.unusedSimpArgs false

noncomputable def laws_FnJubileesCome.code8 (R : Code) : Code := withTail 3 (dropSeq 8 (Try.f3.body.getD .skip)) R
set_option maxHeartbeats 40000000 in
set_option maxRecDepth 100000 in
theorem laws_FnJubileesCome.st8 (A0 : Option Addr) (c0 : Nat) (l0 : List Int) (A1 : Option Addr) (c1 : Nat) (l1 : List Int) (w : World) (hr0 : Kd.C (Kd.int .u8) w A0 l0.length l0) (hc0 : l0.length ≤ c0) (hr1 : Kd.C (Kd.int .u8) w A1 l1.length l1) (hc1 : l1.length ≤ c1) (R : Code) (hR : ∀ (a' : Act) (wc : World), laws_FnJubileesCome.pre11 A0 c0 l0 A1 c1 l1 w a' wc → Code.wp Try.prog R (bodyPost Try.prog Try.f3 (fun e w' => e = .returned (.bool true) ∧ Below w.heap.size w w')) a' wc) (a' : Act) (wc : World) (hP : laws_FnJubileesCome.pre8 A0 c0 l0 A1 c1 l1 w a' wc) :
    Code.wp Try.prog (laws_FnJubileesCome.code8 R) (bodyPost Try.prog Try.f3 (fun e w' => e = .returned (.bool true) ∧ Below w.heap.size w w')) a' wc := by
  have HR0 := Aside0.mk hr0
  have HC0 := Aside0.mk hc0
  clear hr0 hc0
  have HR1 := Aside0.mk hr1
  have HC1 := Aside0.mk hc1
  clear hr1 hc1
  unfold laws_FnJubileesCome.pre8 at hP
  obtain ⟨kq, x5_s8, x6_s8, x7_s8, x8_s8, x9_s8, x10_s8, x11_s8, x12_s8, x13_s8, x14_s8, x15_s8, x16_s8, x17_s8, x18_s8, x19_s8, u5, u9, u11, ⟨hlen, hdef⟩, hq1, hq5, hq6, hq7, hq8, hq9, hq10, hq11, hq12, hq13, hq14, hq15, hq16, hq17, hq18, hq19, HA, HO_5, HO_9, HO_11, HB⟩ := hP
  obtain ⟨uf, rfl⟩ := laws_FnJubileesCome.frame a' hlen hdef
  clear hlen hdef
  have he1 : uf 1 = (.slice A1 l1.length c1) := hq1
  clear hq1
  have he5 : uf 5 = u5 := hq5
  clear hq5
  have he6 : uf 6 = .int .i64 x6_s8 := hq6
  clear hq6
  have he7 : uf 7 = .int .i64 x7_s8 := hq7
  clear hq7
  have he8 : uf 8 = .int .i64 x8_s8 := hq8
  clear hq8
  have he9 : uf 9 = u9 := hq9
  clear hq9
  have he10 : uf 10 = .bool x10_s8 := hq10
  clear hq10
  have he11 : uf 11 = u11 := hq11
  clear hq11
  have he12 : uf 12 = .bool x12_s8 := hq12
  clear hq12
  have he13 : uf 13 = .int .i64 x13_s8 := hq13
  clear hq13
  have he14 : uf 14 = .bool x14_s8 := hq14
  clear hq14
  have he15 : uf 15 = .int .i64 x15_s8 := hq15
  clear hq15
  have he16 : uf 16 = .bool x16_s8 := hq16
  clear hq16
  have he17 : uf 17 = .int .i64 x17_s8 := hq17
  clear hq17
  have he18 : uf 18 = .int .i64 x18_s8 := hq18
  clear hq18
  have he19 : uf 19 = .bool x19_s8 := hq19
  clear hq19
  simp only [he1, he5, he6, he7, he8, he9, he10, he11, he12, he13, he14, he15, he16, he17, he18, he19]
  clear he1 he5 he6 he7 he8 he9 he10 he11 he12 he13 he14 he15 he16 he17 he18 he19
  dsimp only [laws_FnJubileesCome.code8, withTail, dropSeq, Try.f3, Option.getD]
  rcases kq with _ | kj_s8
  · exact absurd HA.out (by simp [laws_FnJubileesCome.j2])
  have H := HA.out
  clear HA
  simp only [laws_FnJubileesCome.j2] at H
  replace H := Option.bind_eq_some_iff.mp H
  obtain ⟨⟨t458, t459, t460⟩, A190, H⟩ := H
  replace H : ((impl_LongestQuiet.f kj_s8 x5_s8 x6_s8 x7_s8 x8_s8).bind fun bt461 => ((spec_LongestQuiet.f kj_s8 x5_s8 x6_s8 x7_s8 x8_s8).bind fun bt464 => (laws_FnJubileesCome.j3 kj_s8 l1 x5_s8 x6_s8 x7_s8 x8_s8 x9_s8 x10_s8 x11_s8 x12_s8 x13_s8 x14_s8 x15_s8 x16_s8 x17_s8 x18_s8 x19_s8 t458 t459 t460 bt461.1 bt461.2.1 bt461.2.2 bt464.1 bt464.2.1 bt464.2.2))) = some true := H
  have A19 := Aside0.mk A190
  clear A190
  replace H := Option.bind_eq_some_iff.mp H
  obtain ⟨⟨t461, t462, t463⟩, A200, H⟩ := H
  replace H : ((spec_LongestQuiet.f kj_s8 x5_s8 x6_s8 x7_s8 x8_s8).bind fun bt464 => (laws_FnJubileesCome.j3 kj_s8 l1 x5_s8 x6_s8 x7_s8 x8_s8 x9_s8 x10_s8 x11_s8 x12_s8 x13_s8 x14_s8 x15_s8 x16_s8 x17_s8 x18_s8 x19_s8 t458 t459 t460 t461 t462 t463 bt464.1 bt464.2.1 bt464.2.2)) = some true := H
  have A20 := Aside0.mk A200
  clear A200
  replace H := Option.bind_eq_some_iff.mp H
  obtain ⟨⟨t464, t465, t466⟩, A210, H⟩ := H
  replace H : (laws_FnJubileesCome.j3 kj_s8 l1 x5_s8 x6_s8 x7_s8 x8_s8 x9_s8 x10_s8 x11_s8 x12_s8 x13_s8 x14_s8 x15_s8 x16_s8 x17_s8 x18_s8 x19_s8 t458 t459 t460 t461 t462 t463 t464 t465 t466) = some true := H
  have A21 := Aside0.mk A210
  clear A210
  have H' := Aside0.mk H
  clear H
  obtain ⟨Ao22, co22, eo22⟩ := Kd.R_slice HO_5.out
  subst eo22
  go_wp2_with (first | ((with_reducible refine gate_callee (f := 11) rfl ?_); refine goesL_ (some 139) rfl rfl Try.func11 (by kernel_rfl) rfl #[.slice Ao22 x5_s8.length co22, .int .i64 x6_s8, .int .i64 x7_s8, .int .i64 x8_s8] rfl (by (try simp only [List.map_toArray, List.map_cons, List.map_nil]); first | done | rfl | (simp only [List.length_drop, List.length_take]; rfl)) ?_; (with_reducible refine (spec_MostJubilees.calls kj_s8 _ _ x5_s8 x6_s8 x7_s8 x8_s8 t458 t459 t460 _ ?side1 ?side2 A19.out).mono ?_); (case side1 => repeat (first | exact (Kd.R_reads' HO_5.out).2.2 | (with_reducible refine Kd.C_alloc ?_ _) | (with_reducible refine Kd.C_drewN ?_ _) | (with_reducible refine Kd.C_drew ?_))); (case side2 => exact (Kd.R_reads' HO_5.out).2.1); rintro e w23 ⟨rfl, hb⟩; refine ⟨_, rfl, ?_⟩; have n0_ := Aside0.mk (Kd.R_below (by (with_reducible repeat (first | apply Kd.R_alloc | apply Kd.R_drewN | apply Kd.R_drew)); exact HO_5.out) hb); have n1_ := Aside0.mk (Kd.S_below (by (with_reducible repeat (first | apply Kd.S_alloc | apply Kd.S_drewN | apply Kd.S_drew)); exact HO_9.out) hb); have n2_ := Aside0.mk (Kd.S_below (by (with_reducible repeat (first | apply Kd.S_alloc | apply Kd.S_drewN | apply Kd.S_drew)); exact HO_11.out) hb); have n3_ := Aside0.mk (below_step (by repeat (first | (with_reducible first | exact HB.out | apply below_alloc | apply pw_below_drewN | apply below_drew1) | exact HB.out)) hb); clear HO_5; clear HO_9; clear HO_11; clear HB; have HO_5 := n0_; have HO_9 := n1_; have HO_11 := n2_; have HB := n3_; clear n0_ n1_ n2_ n3_; (try clear hb); (try clear hb2); (try clear hk); (try clear hi)) | ((with_reducible refine gate_callee (f := 12) rfl ?_); refine goesL_ (some 148) rfl rfl Try.func12 (by kernel_rfl) rfl #[.slice Ao22 x5_s8.length co22, .int .i64 x6_s8, .int .i64 x7_s8, .int .i64 x8_s8] rfl (by (try simp only [List.map_toArray, List.map_cons, List.map_nil]); first | done | rfl | (simp only [List.length_drop, List.length_take]; rfl)) ?_; (with_reducible refine (impl_LongestQuiet.calls kj_s8 _ _ x5_s8 x6_s8 x7_s8 x8_s8 t461 t462 t463 _ ?side1 ?side2 A20.out).mono ?_); (case side1 => repeat (first | exact (Kd.R_reads' HO_5.out).2.2 | (with_reducible refine Kd.C_alloc ?_ _) | (with_reducible refine Kd.C_drewN ?_ _) | (with_reducible refine Kd.C_drew ?_))); (case side2 => exact (Kd.R_reads' HO_5.out).2.1); rintro e w24 ⟨rfl, hb⟩; refine ⟨_, rfl, ?_⟩; have n0_ := Aside0.mk (Kd.R_below (by (with_reducible repeat (first | apply Kd.R_alloc | apply Kd.R_drewN | apply Kd.R_drew)); exact HO_5.out) hb); have n1_ := Aside0.mk (Kd.S_below (by (with_reducible repeat (first | apply Kd.S_alloc | apply Kd.S_drewN | apply Kd.S_drew)); exact HO_9.out) hb); have n2_ := Aside0.mk (Kd.S_below (by (with_reducible repeat (first | apply Kd.S_alloc | apply Kd.S_drewN | apply Kd.S_drew)); exact HO_11.out) hb); have n3_ := Aside0.mk (below_step (by repeat (first | (with_reducible first | exact HB.out | apply below_alloc | apply pw_below_drewN | apply below_drew1) | exact HB.out)) hb); clear HO_5; clear HO_9; clear HO_11; clear HB; have HO_5 := n0_; have HO_9 := n1_; have HO_11 := n2_; have HB := n3_; clear n0_ n1_ n2_ n3_; (try clear hb); (try clear hb2); (try clear hk); (try clear hi)) | ((with_reducible refine gate_callee (f := 13) rfl ?_); refine goesL_ (some 157) rfl rfl Try.func13 (by kernel_rfl) rfl #[.slice Ao22 x5_s8.length co22, .int .i64 x6_s8, .int .i64 x7_s8, .int .i64 x8_s8] rfl (by (try simp only [List.map_toArray, List.map_cons, List.map_nil]); first | done | rfl | (simp only [List.length_drop, List.length_take]; rfl)) ?_; (with_reducible refine (spec_LongestQuiet.calls kj_s8 _ _ x5_s8 x6_s8 x7_s8 x8_s8 t464 t465 t466 _ ?side1 ?side2 A21.out).mono ?_); (case side1 => repeat (first | exact (Kd.R_reads' HO_5.out).2.2 | (with_reducible refine Kd.C_alloc ?_ _) | (with_reducible refine Kd.C_drewN ?_ _) | (with_reducible refine Kd.C_drew ?_))); (case side2 => exact (Kd.R_reads' HO_5.out).2.1); rintro e w25 ⟨rfl, hb⟩; refine ⟨_, rfl, ?_⟩; have n0_ := Aside0.mk (Kd.R_below (by (with_reducible repeat (first | apply Kd.R_alloc | apply Kd.R_drewN | apply Kd.R_drew)); exact HO_5.out) hb); have n1_ := Aside0.mk (Kd.S_below (by (with_reducible repeat (first | apply Kd.S_alloc | apply Kd.S_drewN | apply Kd.S_drew)); exact HO_9.out) hb); have n2_ := Aside0.mk (Kd.S_below (by (with_reducible repeat (first | apply Kd.S_alloc | apply Kd.S_drewN | apply Kd.S_drew)); exact HO_11.out) hb); have n3_ := Aside0.mk (below_step (by repeat (first | (with_reducible first | exact HB.out | apply below_alloc | apply pw_below_drewN | apply below_drew1) | exact HB.out)) hb); clear HO_5; clear HO_9; clear HO_11; clear HB; have HO_5 := n0_; have HO_9 := n1_; have HO_11 := n2_; have HB := n3_; clear n0_ n1_ n2_ n3_; (try clear hb); (try clear hb2); (try clear hk); (try clear hi)))
  refine hR _ _ ?_
  unfold laws_FnJubileesCome.pre11
  exact ⟨_, (x5_s8), (x6_s8), (x7_s8), (x8_s8), (x9_s8), (x10_s8), (x11_s8), (x12_s8), (x13_s8), (x14_s8), (x15_s8), (x16_s8), (x17_s8), (x18_s8), (x19_s8), (t458), (t459), (t460), (t461), (t462), (t463), (t464), (t465), (t466), (.slice Ao22 x5_s8.length co22), (u9), (u11), ⟨rfl, rfl⟩, (by first | rfl | (show _ = _; simp [nthV]; done) | (simp [nthV, *]; done)), (by first | rfl | (show _ = _; simp [nthV]; done) | (simp [nthV, *]; done)), (by first | rfl | (show _ = _; simp [nthV]; done) | (simp [nthV, *]; done)), (by first | rfl | (show _ = _; simp [nthV]; done) | (simp [nthV, *]; done)), (by first | rfl | (show _ = _; simp [nthV]; done) | (simp [nthV, *]; done)), (by first | rfl | (show _ = _; simp [nthV]; done) | (simp [nthV, *]; done)), (by first | rfl | (show _ = _; simp [nthV]; done) | (simp [nthV, *]; done)), (by first | rfl | (show _ = _; simp [nthV]; done) | (simp [nthV, *]; done)), (by first | rfl | (show _ = _; simp [nthV]; done) | (simp [nthV, *]; done)), (by first | rfl | (show _ = _; simp [nthV]; done) | (simp [nthV, *]; done)), (by first | rfl | (show _ = _; simp [nthV]; done) | (simp [nthV, *]; done)), (by first | rfl | (show _ = _; simp [nthV]; done) | (simp [nthV, *]; done)), (by first | rfl | (show _ = _; simp [nthV]; done) | (simp [nthV, *]; done)), (by first | rfl | (show _ = _; simp [nthV]; done) | (simp [nthV, *]; done)), (by first | rfl | (show _ = _; simp [nthV]; done) | (simp [nthV, *]; done)), (by first | rfl | (show _ = _; simp [nthV]; done) | (simp [nthV, *]; done)), (by first | rfl | (show _ = _; simp [nthV]; done) | (simp [nthV, *]; done)), (by first | rfl | (show _ = _; simp [nthV]; done) | (simp [nthV, *]; done)), (by first | rfl | (show _ = _; simp [nthV]; done) | (simp [nthV, *]; done)), (by first | rfl | (show _ = _; simp [nthV]; done) | (simp [nthV, *]; done)), (by first | rfl | (show _ = _; simp [nthV]; done) | (simp [nthV, *]; done)), (by first | rfl | (show _ = _; simp [nthV]; done) | (simp [nthV, *]; done)), (by first | rfl | (show _ = _; simp [nthV]; done) | (simp [nthV, *]; done)), (by first | rfl | (show _ = _; simp [nthV]; done) | (simp [nthV, *]; done)), (by first | rfl | (show _ = _; simp [nthV]; done) | (simp [nthV, *]; done)), H', ⟨by (with_reducible repeat (first | apply Kd.R_alloc | apply Kd.R_drewN | apply Kd.R_drew)); exact HO_5.out⟩, ⟨by (with_reducible repeat (first | apply Kd.S_alloc | apply Kd.S_drewN | apply Kd.S_drew)); exact HO_9.out⟩, ⟨by (with_reducible repeat (first | apply Kd.S_alloc | apply Kd.S_drewN | apply Kd.S_drew)); exact HO_11.out⟩, ⟨by repeat (first | (with_reducible first | exact HB.out | apply below_alloc | apply pw_below_drewN | apply below_drew1) | exact HB.out)⟩⟩

noncomputable def laws_FnJubileesCome.code5 (R : Code) : Code := withTail 3 (dropSeq 5 (Try.f3.body.getD .skip)) R
set_option maxHeartbeats 40000000 in
set_option maxRecDepth 100000 in
theorem laws_FnJubileesCome.st5 (A0 : Option Addr) (c0 : Nat) (l0 : List Int) (A1 : Option Addr) (c1 : Nat) (l1 : List Int) (w : World) (hr0 : Kd.C (Kd.int .u8) w A0 l0.length l0) (hc0 : l0.length ≤ c0) (hr1 : Kd.C (Kd.int .u8) w A1 l1.length l1) (hc1 : l1.length ≤ c1) (R : Code) (hR : ∀ (a' : Act) (wc : World), laws_FnJubileesCome.pre8 A0 c0 l0 A1 c1 l1 w a' wc → Code.wp Try.prog R (bodyPost Try.prog Try.f3 (fun e w' => e = .returned (.bool true) ∧ Below w.heap.size w w')) a' wc) (a' : Act) (wc : World) (hP : laws_FnJubileesCome.pre5 A0 c0 l0 A1 c1 l1 w a' wc) :
    Code.wp Try.prog (laws_FnJubileesCome.code5 R) (bodyPost Try.prog Try.f3 (fun e w' => e = .returned (.bool true) ∧ Below w.heap.size w w')) a' wc := by
  have HR0 := Aside0.mk hr0
  have HC0 := Aside0.mk hc0
  clear hr0 hc0
  have HR1 := Aside0.mk hr1
  have HC1 := Aside0.mk hc1
  clear hr1 hc1
  unfold laws_FnJubileesCome.pre5 at hP
  obtain ⟨kq, x5_s5, x6_s5, x7_s5, x8_s5, x9_s5, x10_s5, x11_s5, x12_s5, u5, u9, u11, ⟨hlen, hdef⟩, hq1, hq5, hq6, hq7, hq8, hq9, hq10, hq11, hq12, HA, HO_5, HO_9, HO_11, HB⟩ := hP
  obtain ⟨uf, rfl⟩ := laws_FnJubileesCome.frame a' hlen hdef
  clear hlen hdef
  have he1 : uf 1 = (.slice A1 l1.length c1) := hq1
  clear hq1
  have he5 : uf 5 = u5 := hq5
  clear hq5
  have he6 : uf 6 = .int .i64 x6_s5 := hq6
  clear hq6
  have he7 : uf 7 = .int .i64 x7_s5 := hq7
  clear hq7
  have he8 : uf 8 = .int .i64 x8_s5 := hq8
  clear hq8
  have he9 : uf 9 = u9 := hq9
  clear hq9
  have he10 : uf 10 = .bool x10_s5 := hq10
  clear hq10
  have he11 : uf 11 = u11 := hq11
  clear hq11
  have he12 : uf 12 = .bool x12_s5 := hq12
  clear hq12
  simp only [he1, he5, he6, he7, he8, he9, he10, he11, he12]
  clear he1 he5 he6 he7 he8 he9 he10 he11 he12
  dsimp only [laws_FnJubileesCome.code5, withTail, dropSeq, Try.f3, Option.getD]
  rcases kq with _ | kj_s5
  · exact absurd HA.out (by simp [laws_FnJubileesCome.j1])
  have H := HA.out
  clear HA
  simp only [laws_FnJubileesCome.j1] at H
  replace H := Option.bind_eq_some_iff.mp H
  obtain ⟨⟨t451, t452⟩, A120, H⟩ := H
  replace H : ((spec_CountJubilees.f kj_s5 x5_s5 x6_s5 x7_s5 x8_s5).bind fun bt453 => ((impl_MostJubilees.f kj_s5 x5_s5 x6_s5 x7_s5 x8_s5).bind fun bt455 => (laws_FnJubileesCome.j2 kj_s5 l1 x5_s5 x6_s5 x7_s5 x8_s5 x9_s5 x10_s5 x11_s5 x12_s5 t451 t452 bt453.1 bt453.2 bt455.1 bt455.2.1 bt455.2.2))) = some true := H
  have A12 := Aside0.mk A120
  clear A120
  replace H := Option.bind_eq_some_iff.mp H
  obtain ⟨⟨t453, t454⟩, A130, H⟩ := H
  replace H : ((impl_MostJubilees.f kj_s5 x5_s5 x6_s5 x7_s5 x8_s5).bind fun bt455 => (laws_FnJubileesCome.j2 kj_s5 l1 x5_s5 x6_s5 x7_s5 x8_s5 x9_s5 x10_s5 x11_s5 x12_s5 t451 t452 t453 t454 bt455.1 bt455.2.1 bt455.2.2)) = some true := H
  have A13 := Aside0.mk A130
  clear A130
  replace H := Option.bind_eq_some_iff.mp H
  obtain ⟨⟨t455, t456, t457⟩, A140, H⟩ := H
  replace H : (laws_FnJubileesCome.j2 kj_s5 l1 x5_s5 x6_s5 x7_s5 x8_s5 x9_s5 x10_s5 x11_s5 x12_s5 t451 t452 t453 t454 t455 t456 t457) = some true := H
  have A14 := Aside0.mk A140
  clear A140
  have H' := Aside0.mk H
  clear H
  obtain ⟨Ao15, co15, eo15⟩ := Kd.R_slice HO_5.out
  subst eo15
  go_wp2_with (first | ((with_reducible refine gate_callee (f := 8) rfl ?_); refine goesL_ (some 114) rfl rfl Try.func8 (by kernel_rfl) rfl #[.slice Ao15 x5_s5.length co15, .int .i64 x6_s5, .int .i64 x7_s5, .int .i64 x8_s5] rfl (by (try simp only [List.map_toArray, List.map_cons, List.map_nil]); first | done | rfl | (simp only [List.length_drop, List.length_take]; rfl)) ?_; (with_reducible refine (impl_CountJubilees.calls kj_s5 _ _ x5_s5 x6_s5 x7_s5 x8_s5 t451 t452 _ ?side1 ?side2 A12.out).mono ?_); (case side1 => repeat (first | exact (Kd.R_reads' HO_5.out).2.2 | (with_reducible refine Kd.C_alloc ?_ _) | (with_reducible refine Kd.C_drewN ?_ _) | (with_reducible refine Kd.C_drew ?_))); (case side2 => exact (Kd.R_reads' HO_5.out).2.1); rintro e w16 ⟨rfl, hb⟩; refine ⟨_, rfl, ?_⟩; have n0_ := Aside0.mk (Kd.R_below (by (with_reducible repeat (first | apply Kd.R_alloc | apply Kd.R_drewN | apply Kd.R_drew)); exact HO_5.out) hb); have n1_ := Aside0.mk (Kd.S_below (by (with_reducible repeat (first | apply Kd.S_alloc | apply Kd.S_drewN | apply Kd.S_drew)); exact HO_9.out) hb); have n2_ := Aside0.mk (Kd.S_below (by (with_reducible repeat (first | apply Kd.S_alloc | apply Kd.S_drewN | apply Kd.S_drew)); exact HO_11.out) hb); have n3_ := Aside0.mk (below_step (by repeat (first | (with_reducible first | exact HB.out | apply below_alloc | apply pw_below_drewN | apply below_drew1) | exact HB.out)) hb); clear HO_5; clear HO_9; clear HO_11; clear HB; have HO_5 := n0_; have HO_9 := n1_; have HO_11 := n2_; have HB := n3_; clear n0_ n1_ n2_ n3_; (try clear hb); (try clear hb2); (try clear hk); (try clear hi)) | ((with_reducible refine gate_callee (f := 9) rfl ?_); refine goesL_ (some 122) rfl rfl Try.func9 (by kernel_rfl) rfl #[.slice Ao15 x5_s5.length co15, .int .i64 x6_s5, .int .i64 x7_s5, .int .i64 x8_s5] rfl (by (try simp only [List.map_toArray, List.map_cons, List.map_nil]); first | done | rfl | (simp only [List.length_drop, List.length_take]; rfl)) ?_; (with_reducible refine (spec_CountJubilees.calls kj_s5 _ _ x5_s5 x6_s5 x7_s5 x8_s5 t453 t454 _ ?side1 ?side2 A13.out).mono ?_); (case side1 => repeat (first | exact (Kd.R_reads' HO_5.out).2.2 | (with_reducible refine Kd.C_alloc ?_ _) | (with_reducible refine Kd.C_drewN ?_ _) | (with_reducible refine Kd.C_drew ?_))); (case side2 => exact (Kd.R_reads' HO_5.out).2.1); rintro e w17 ⟨rfl, hb⟩; refine ⟨_, rfl, ?_⟩; have n0_ := Aside0.mk (Kd.R_below (by (with_reducible repeat (first | apply Kd.R_alloc | apply Kd.R_drewN | apply Kd.R_drew)); exact HO_5.out) hb); have n1_ := Aside0.mk (Kd.S_below (by (with_reducible repeat (first | apply Kd.S_alloc | apply Kd.S_drewN | apply Kd.S_drew)); exact HO_9.out) hb); have n2_ := Aside0.mk (Kd.S_below (by (with_reducible repeat (first | apply Kd.S_alloc | apply Kd.S_drewN | apply Kd.S_drew)); exact HO_11.out) hb); have n3_ := Aside0.mk (below_step (by repeat (first | (with_reducible first | exact HB.out | apply below_alloc | apply pw_below_drewN | apply below_drew1) | exact HB.out)) hb); clear HO_5; clear HO_9; clear HO_11; clear HB; have HO_5 := n0_; have HO_9 := n1_; have HO_11 := n2_; have HB := n3_; clear n0_ n1_ n2_ n3_; (try clear hb); (try clear hb2); (try clear hk); (try clear hi)) | ((with_reducible refine gate_callee (f := 10) rfl ?_); refine goesL_ (some 130) rfl rfl Try.func10 (by kernel_rfl) rfl #[.slice Ao15 x5_s5.length co15, .int .i64 x6_s5, .int .i64 x7_s5, .int .i64 x8_s5] rfl (by (try simp only [List.map_toArray, List.map_cons, List.map_nil]); first | done | rfl | (simp only [List.length_drop, List.length_take]; rfl)) ?_; (with_reducible refine (impl_MostJubilees.calls kj_s5 _ _ x5_s5 x6_s5 x7_s5 x8_s5 t455 t456 t457 _ ?side1 ?side2 A14.out).mono ?_); (case side1 => repeat (first | exact (Kd.R_reads' HO_5.out).2.2 | (with_reducible refine Kd.C_alloc ?_ _) | (with_reducible refine Kd.C_drewN ?_ _) | (with_reducible refine Kd.C_drew ?_))); (case side2 => exact (Kd.R_reads' HO_5.out).2.1); rintro e w18 ⟨rfl, hb⟩; refine ⟨_, rfl, ?_⟩; have n0_ := Aside0.mk (Kd.R_below (by (with_reducible repeat (first | apply Kd.R_alloc | apply Kd.R_drewN | apply Kd.R_drew)); exact HO_5.out) hb); have n1_ := Aside0.mk (Kd.S_below (by (with_reducible repeat (first | apply Kd.S_alloc | apply Kd.S_drewN | apply Kd.S_drew)); exact HO_9.out) hb); have n2_ := Aside0.mk (Kd.S_below (by (with_reducible repeat (first | apply Kd.S_alloc | apply Kd.S_drewN | apply Kd.S_drew)); exact HO_11.out) hb); have n3_ := Aside0.mk (below_step (by repeat (first | (with_reducible first | exact HB.out | apply below_alloc | apply pw_below_drewN | apply below_drew1) | exact HB.out)) hb); clear HO_5; clear HO_9; clear HO_11; clear HB; have HO_5 := n0_; have HO_9 := n1_; have HO_11 := n2_; have HB := n3_; clear n0_ n1_ n2_ n3_; (try clear hb); (try clear hb2); (try clear hk); (try clear hi)))
  refine hR _ _ ?_
  unfold laws_FnJubileesCome.pre8
  exact ⟨_, (x5_s5), (x6_s5), (x7_s5), (x8_s5), (x9_s5), (x10_s5), (x11_s5), (x12_s5), (t451), (t452), (t453), (t454), (t455), (t456), (t457), (.slice Ao15 x5_s5.length co15), (u9), (u11), ⟨rfl, rfl⟩, (by first | rfl | (show _ = _; simp [nthV]; done) | (simp [nthV, *]; done)), (by first | rfl | (show _ = _; simp [nthV]; done) | (simp [nthV, *]; done)), (by first | rfl | (show _ = _; simp [nthV]; done) | (simp [nthV, *]; done)), (by first | rfl | (show _ = _; simp [nthV]; done) | (simp [nthV, *]; done)), (by first | rfl | (show _ = _; simp [nthV]; done) | (simp [nthV, *]; done)), (by first | rfl | (show _ = _; simp [nthV]; done) | (simp [nthV, *]; done)), (by first | rfl | (show _ = _; simp [nthV]; done) | (simp [nthV, *]; done)), (by first | rfl | (show _ = _; simp [nthV]; done) | (simp [nthV, *]; done)), (by first | rfl | (show _ = _; simp [nthV]; done) | (simp [nthV, *]; done)), (by first | rfl | (show _ = _; simp [nthV]; done) | (simp [nthV, *]; done)), (by first | rfl | (show _ = _; simp [nthV]; done) | (simp [nthV, *]; done)), (by first | rfl | (show _ = _; simp [nthV]; done) | (simp [nthV, *]; done)), (by first | rfl | (show _ = _; simp [nthV]; done) | (simp [nthV, *]; done)), (by first | rfl | (show _ = _; simp [nthV]; done) | (simp [nthV, *]; done)), (by first | rfl | (show _ = _; simp [nthV]; done) | (simp [nthV, *]; done)), (by first | rfl | (show _ = _; simp [nthV]; done) | (simp [nthV, *]; done)), H', ⟨by (with_reducible repeat (first | apply Kd.R_alloc | apply Kd.R_drewN | apply Kd.R_drew)); exact HO_5.out⟩, ⟨by (with_reducible repeat (first | apply Kd.S_alloc | apply Kd.S_drewN | apply Kd.S_drew)); exact HO_9.out⟩, ⟨by (with_reducible repeat (first | apply Kd.S_alloc | apply Kd.S_drewN | apply Kd.S_drew)); exact HO_11.out⟩, ⟨by repeat (first | (with_reducible first | exact HB.out | apply below_alloc | apply pw_below_drewN | apply below_drew1) | exact HB.out)⟩⟩

noncomputable def laws_FnJubileesCome.code2 (R : Code) : Code := withTail 3 (dropSeq 2 (Try.f3.body.getD .skip)) R
set_option maxHeartbeats 40000000 in
set_option maxRecDepth 100000 in
theorem laws_FnJubileesCome.st2 (A0 : Option Addr) (c0 : Nat) (l0 : List Int) (A1 : Option Addr) (c1 : Nat) (l1 : List Int) (w : World) (hr0 : Kd.C (Kd.int .u8) w A0 l0.length l0) (hc0 : l0.length ≤ c0) (hr1 : Kd.C (Kd.int .u8) w A1 l1.length l1) (hc1 : l1.length ≤ c1) (R : Code) (hR : ∀ (a' : Act) (wc : World), laws_FnJubileesCome.pre5 A0 c0 l0 A1 c1 l1 w a' wc → Code.wp Try.prog R (bodyPost Try.prog Try.f3 (fun e w' => e = .returned (.bool true) ∧ Below w.heap.size w w')) a' wc) (a' : Act) (wc : World) (hP : laws_FnJubileesCome.pre2 A0 c0 l0 A1 c1 l1 w a' wc) :
    Code.wp Try.prog (laws_FnJubileesCome.code2 R) (bodyPost Try.prog Try.f3 (fun e w' => e = .returned (.bool true) ∧ Below w.heap.size w w')) a' wc := by
  have HR0 := Aside0.mk hr0
  have HC0 := Aside0.mk hc0
  clear hr0 hc0
  have HR1 := Aside0.mk hr1
  have HC1 := Aside0.mk hc1
  clear hr1 hc1
  unfold laws_FnJubileesCome.pre2 at hP
  obtain ⟨kq, ⟨hlen, hdef⟩, hq0, hq1, HA, HB⟩ := hP
  obtain ⟨uf, rfl⟩ := laws_FnJubileesCome.frame a' hlen hdef
  clear hlen hdef
  have he0 : uf 0 = (.slice A0 l0.length c0) := hq0
  clear hq0
  have he1 : uf 1 = (.slice A1 l1.length c1) := hq1
  clear hq1
  simp only [he0, he1]
  clear he0 he1
  dsimp only [laws_FnJubileesCome.code2, withTail, dropSeq, Try.f3, Option.getD]
  rcases kq with _ | kj_s2
  · exact absurd HA.out (by simp [laws_FnJubileesCome.j0])
  have H := HA.out
  clear HA
  simp only [laws_FnJubileesCome.j0] at H
  replace H := Option.bind_eq_some_iff.mp H
  obtain ⟨⟨t437, t438, t439, t440⟩, A50, H⟩ := H
  replace H : ((impl_CalendarOf.f kj_s2 t437 t438 t439 t440).bind fun bt443 => ((spec_CalendarOf.f kj_s2 t437 t438 t439 t440).bind fun bt447 => (laws_FnJubileesCome.j1 kj_s2 l1 t437 t438 t439 t440 bt443.1 bt443.2 bt447.1 bt447.2))) = some true := H
  have A5 := Aside0.mk A50
  clear A50
  replace H := Option.bind_eq_some_iff.mp H
  obtain ⟨⟨t443, t444⟩, A60, H⟩ := H
  replace H : ((spec_CalendarOf.f kj_s2 t437 t438 t439 t440).bind fun bt447 => (laws_FnJubileesCome.j1 kj_s2 l1 t437 t438 t439 t440 t443 t444 bt447.1 bt447.2)) = some true := H
  have A6 := Aside0.mk A60
  clear A60
  replace H := Option.bind_eq_some_iff.mp H
  obtain ⟨⟨t447, t448⟩, A70, H⟩ := H
  replace H : (laws_FnJubileesCome.j1 kj_s2 l1 t437 t438 t439 t440 t443 t444 t447 t448) = some true := H
  have A7 := Aside0.mk A70
  clear A70
  have H' := Aside0.mk H
  clear H
  go_wp2_with (first | ((with_reducible refine gate_callee (f := 5) rfl ?_); refine goesL_ (some 88) rfl rfl Try.func5 (by kernel_rfl) rfl #[.slice A0 l0.length c0] rfl (by (try simp only [List.map_toArray, List.map_cons, List.map_nil]); first | done | rfl | (simp only [List.length_drop, List.length_take]; rfl)) ?_; (with_reducible refine (spec_DrawCalendarOf.calls kj_s2 _ _ l0 t437 t438 t439 t440 _ ?side1 ?side2 A5.out).mono ?_); (case side1 => repeat (first | exact (Kd.C_below HR0.out HB.out) | (with_reducible refine Kd.C_alloc ?_ _) | (with_reducible refine Kd.C_drewN ?_ _) | (with_reducible refine Kd.C_drew ?_))); (case side2 => exact HC0.out); rintro e w8 ⟨v441, rfl, ho0, hb⟩; refine ⟨_, rfl, ?_⟩; have n0_ := Aside0.mk (Kd.R_lower ho0 (below_size (by repeat (first | (with_reducible first | exact HB.out | apply below_alloc | apply pw_below_drewN | apply below_drew1) | exact HB.out)))); have n1_ := Aside0.mk (below_step (by repeat (first | (with_reducible first | exact HB.out | apply below_alloc | apply pw_below_drewN | apply below_drew1) | exact HB.out)) hb); clear HB; have HO442 := n0_; have HB := n1_; clear n0_ n1_; (try clear hb); (try clear hb2); (try clear hk); (try clear hi); (try clear ho0); obtain ⟨Ao9, co9, eo9⟩ := Kd.R_slice HO442.out; subst eo9) | ((with_reducible refine gate_callee (f := 6) rfl ?_); refine goesL_ (some 98) rfl rfl Try.func6 (by kernel_rfl) rfl #[.slice Ao9 t437.length co9, .int .i64 t438, .int .i64 t439, .int .i64 t440] rfl (by (try simp only [List.map_toArray, List.map_cons, List.map_nil]); first | done | rfl | (simp only [List.length_drop, List.length_take]; rfl)) ?_; (with_reducible refine (impl_CalendarOf.calls kj_s2 _ _ t437 t438 t439 t440 t443 t444 _ ?side1 ?side2 A6.out).mono ?_); (case side1 => repeat (first | exact (Kd.R_reads' HO442.out).2.2 | (with_reducible refine Kd.C_alloc ?_ _) | (with_reducible refine Kd.C_drewN ?_ _) | (with_reducible refine Kd.C_drew ?_))); (case side2 => exact (Kd.R_reads' HO442.out).2.1); rintro e w10 ⟨v445, rfl, ho0, hb⟩; refine ⟨_, rfl, ?_⟩; have n0_ := Aside0.mk (Kd.R_below (by (with_reducible repeat (first | apply Kd.R_alloc | apply Kd.R_drewN | apply Kd.R_drew)); exact HO442.out) hb); have n1_ := Aside0.mk (Kd.S_lower (Kd.S_new' ho0 (Kd.R_lt (by (with_reducible repeat (first | apply Kd.R_alloc | apply Kd.R_drewN | apply Kd.R_drew)); exact HO442.out))) (below_size (by repeat (first | (with_reducible first | exact HB.out | apply below_alloc | apply pw_below_drewN | apply below_drew1) | exact HB.out)))); have n2_ := Aside0.mk (below_step (by repeat (first | (with_reducible first | exact HB.out | apply below_alloc | apply pw_below_drewN | apply below_drew1) | exact HB.out)) hb); clear HO442; clear HB; have HO442 := n0_; have HO446 := n1_; have HB := n2_; clear n0_ n1_ n2_; (try clear hb); (try clear hb2); (try clear hk); (try clear hi); (try clear ho0)) | ((with_reducible refine gate_callee (f := 7) rfl ?_); refine goesL_ (some 106) rfl rfl Try.func7 (by kernel_rfl) rfl #[.slice Ao9 t437.length co9, .int .i64 t438, .int .i64 t439, .int .i64 t440] rfl (by (try simp only [List.map_toArray, List.map_cons, List.map_nil]); first | done | rfl | (simp only [List.length_drop, List.length_take]; rfl)) ?_; (with_reducible refine (spec_CalendarOf.calls kj_s2 _ _ t437 t438 t439 t440 t447 t448 _ ?side1 ?side2 A7.out).mono ?_); (case side1 => repeat (first | exact (Kd.R_reads' HO442.out).2.2 | (with_reducible refine Kd.C_alloc ?_ _) | (with_reducible refine Kd.C_drewN ?_ _) | (with_reducible refine Kd.C_drew ?_))); (case side2 => exact (Kd.R_reads' HO442.out).2.1); rintro e w11 ⟨v449, rfl, ho0, hb⟩; refine ⟨_, rfl, ?_⟩; have n0_ := Aside0.mk (Kd.R_below (by (with_reducible repeat (first | apply Kd.R_alloc | apply Kd.R_drewN | apply Kd.R_drew)); exact HO442.out) hb); have n1_ := Aside0.mk (Kd.S_elder' (by (with_reducible repeat (first | apply Kd.S_alloc | apply Kd.S_drewN | apply Kd.S_drew)); exact HO446.out) (Kd.S_base ho0) hb); have n2_ := Aside0.mk (Kd.S_lower (Kd.S_new' (Kd.S_new' ho0 (Kd.R_lt (by (with_reducible repeat (first | apply Kd.R_alloc | apply Kd.R_drewN | apply Kd.R_drew)); exact HO442.out))) (Kd.S_lt (by (with_reducible repeat (first | apply Kd.S_alloc | apply Kd.S_drewN | apply Kd.S_drew)); exact HO446.out))) (below_size (by repeat (first | (with_reducible first | exact HB.out | apply below_alloc | apply pw_below_drewN | apply below_drew1) | exact HB.out)))); have n3_ := Aside0.mk (below_step (by repeat (first | (with_reducible first | exact HB.out | apply below_alloc | apply pw_below_drewN | apply below_drew1) | exact HB.out)) hb); clear HO442; clear HO446; clear HB; have HO442 := n0_; have HO446 := n1_; have HO450 := n2_; have HB := n3_; clear n0_ n1_ n2_ n3_; (try clear hb); (try clear hb2); (try clear hk); (try clear hi); (try clear ho0)))
  refine hR _ _ ?_
  unfold laws_FnJubileesCome.pre5
  exact ⟨_, (t437), (t438), (t439), (t440), (t443), (t444), (t447), (t448), (.slice Ao9 t437.length co9), (v445), (v449), ⟨rfl, rfl⟩, (by first | rfl | (show _ = _; simp [nthV]; done) | (simp [nthV, *]; done)), (by first | rfl | (show _ = _; simp [nthV]; done) | (simp [nthV, *]; done)), (by first | rfl | (show _ = _; simp [nthV]; done) | (simp [nthV, *]; done)), (by first | rfl | (show _ = _; simp [nthV]; done) | (simp [nthV, *]; done)), (by first | rfl | (show _ = _; simp [nthV]; done) | (simp [nthV, *]; done)), (by first | rfl | (show _ = _; simp [nthV]; done) | (simp [nthV, *]; done)), (by first | rfl | (show _ = _; simp [nthV]; done) | (simp [nthV, *]; done)), (by first | rfl | (show _ = _; simp [nthV]; done) | (simp [nthV, *]; done)), (by first | rfl | (show _ = _; simp [nthV]; done) | (simp [nthV, *]; done)), H', ⟨by (with_reducible repeat (first | apply Kd.R_alloc | apply Kd.R_drewN | apply Kd.R_drew)); exact HO442.out⟩, ⟨by (with_reducible repeat (first | apply Kd.S_alloc | apply Kd.S_drewN | apply Kd.S_drew)); exact Kd.S_mono HO446.out (fun _ hk => ⟨hk.1.2, hk.2⟩)⟩, ⟨by (with_reducible repeat (first | apply Kd.S_alloc | apply Kd.S_drewN | apply Kd.S_drew)); exact Kd.S_mono HO450.out (fun _ hk => ⟨hk.1.2, hk.2⟩)⟩, ⟨by repeat (first | (with_reducible first | exact HB.out | apply below_alloc | apply pw_below_drewN | apply below_drew1) | exact HB.out)⟩⟩

noncomputable def laws_FnJubileesCome.code0 (R : Code) : Code := withTail 2 (dropSeq 0 (Try.f3.body.getD .skip)) R
set_option maxHeartbeats 40000000 in
set_option maxRecDepth 100000 in
theorem laws_FnJubileesCome.st0 (k : Nat) (A0 : Option Addr) (c0 : Nat) (l0 : List Int) (A1 : Option Addr) (c1 : Nat) (l1 : List Int) (w : World) (hr0 : Kd.C (Kd.int .u8) w A0 l0.length l0) (hc0 : l0.length ≤ c0) (hr1 : Kd.C (Kd.int .u8) w A1 l1.length l1) (hc1 : l1.length ≤ c1) (h : laws_FnJubileesCome.f k l0 l1 = some true) (R : Code) (hR : ∀ (a' : Act) (wc : World), laws_FnJubileesCome.pre2 A0 c0 l0 A1 c1 l1 w a' wc → Code.wp Try.prog R (bodyPost Try.prog Try.f3 (fun e w' => e = .returned (.bool true) ∧ Below w.heap.size w w')) a' wc) :
    Code.wp Try.prog (laws_FnJubileesCome.code0 R) (bodyPost Try.prog Try.f3 (fun e w' => e = .returned (.bool true) ∧ Below w.heap.size w w')) ⟨#[.slice A0 l0.length c0, .slice A1 l1.length c1, undef, undef, undef, undef, undef, undef, undef, undef, undef, undef, undef, undef, undef, undef, undef, undef, undef, undef, undef, undef, undef, undef, undef, undef, undef, undef, undef, undef, undef, undef, undef, undef, undef, undef, undef, undef, undef, undef, undef, undef, undef, undef, undef, undef, undef, undef, undef, undef, undef, undef, undef, undef, undef, undef, undef, undef, undef, undef, undef, undef, undef, undef, undef, undef, undef, undef, undef, undef, undef, undef, undef, undef, undef, undef, undef, undef, undef, undef, undef, undef, undef, undef, undef, undef, undef, undef, undef, undef, undef, undef, undef, undef, undef, undef, undef, undef, undef, undef, undef, undef, undef, undef, undef, undef, undef, undef, undef, undef, undef, undef, undef, undef, undef, undef, undef, undef, undef, undef, undef, undef, undef, undef, undef, undef, undef, undef, undef, undef, undef, undef, undef, undef, undef, undef, undef, undef, undef, undef, undef, undef, undef, undef, undef, undef, undef, undef, undef, undef, undef, undef, undef, undef, undef, undef, undef, undef, undef, undef, undef, undef, undef, undef, undef, undef, undef, undef, undef, undef, undef, undef, undef, undef, undef, undef, undef, undef, undef, undef, undef, undef, undef, undef, undef, undef, undef, undef, undef, undef, undef, undef, undef, undef, undef, undef, undef, undef, undef, undef, undef, undef, undef, undef, undef, undef, undef, undef, undef, undef, undef, undef, undef, undef, undef, undef, undef, undef, undef, undef, undef, undef, undef, undef, undef, undef, undef, undef, undef, undef, undef, undef, undef, undef, undef, undef, undef, undef, undef, undef, undef, undef, undef, undef, undef, undef, undef, undef, undef, undef, undef, undef, undef, undef, undef, undef, undef, undef, undef, undef, undef, undef, undef, undef, undef, undef, undef, undef, undef, undef, undef, undef, undef, undef, undef, undef, undef, undef, undef, undef, undef, undef, undef, undef, undef, undef, undef, undef, undef, undef, undef, undef, undef, undef, undef, undef, undef, undef, undef, undef, undef, undef, undef, undef, undef, undef, undef, undef, undef, undef, undef, undef, undef, undef, undef, undef, undef, undef, undef, undef, undef, undef, undef, undef, undef, undef, undef, undef, undef, undef, undef, undef, undef, undef, undef, undef, undef, undef, undef, undef, undef, undef, undef, undef, undef, undef, undef, undef, undef, undef, undef, undef, undef, undef, undef, undef, undef, undef, undef, undef, undef, undef, undef, undef, undef, undef, undef, undef, undef, undef, undef, undef, undef, undef, undef, undef, undef, undef, undef, undef, undef, undef, undef, undef, undef, undef, undef, undef, undef, undef, undef, undef, undef, undef, undef, undef, undef, undef, undef, undef, undef, undef, undef, undef, undef, undef, undef, undef, undef, undef, undef, undef, undef, undef, undef, undef, undef, undef, undef, undef, undef, undef, undef, undef, undef, undef, undef, undef, undef, undef, undef, undef, undef, undef, undef, undef, undef, undef, undef, undef, undef, undef, undef, undef, undef, undef, undef, undef, undef, undef, undef, undef, undef, undef, undef, undef, undef, undef, undef, undef, undef, undef, undef, undef, undef, undef, undef, undef, undef, undef, undef, undef, undef, undef, undef, undef, undef, undef, undef, undef, undef, undef, undef, undef, undef, undef, undef, undef, undef, undef, undef, undef, undef, undef, undef, undef, undef, undef, undef, undef, undef, undef, undef, undef, undef, undef, undef, undef, undef, undef, undef, undef, undef, undef, undef, undef, undef, undef, undef, undef, undef, undef, undef, undef, undef, undef, undef, undef, undef, undef, undef, undef, undef, undef, undef, undef, undef, undef, undef, undef, undef, undef, undef, undef, undef, undef, undef, undef, undef, undef, undef, undef, undef, undef, undef, undef, undef, undef, undef, undef, undef, undef, undef, undef, undef, undef, undef, undef, undef, undef, undef, undef, undef, undef, undef, undef, undef, undef, undef, undef, undef, undef, undef, undef, undef, undef, undef, undef, undef, undef, undef, undef, undef, undef, undef, undef, undef, undef, undef, undef, undef, undef, undef, undef, undef, undef, undef, undef, undef, undef, undef, undef, undef, undef, undef, undef, undef, undef, undef, undef, undef, undef, undef, undef, undef, undef, undef, undef, undef, undef, undef, undef, undef, undef, undef, undef, undef, undef, undef, undef, undef, undef, undef, undef, undef, undef, undef, undef, undef, undef, undef, undef, undef, undef, undef, undef, undef, undef, undef, undef, undef, undef, undef, undef, undef, undef, undef, undef, undef, undef, undef, undef, undef, undef, undef, undef, undef, undef, undef, undef, undef, undef, undef, undef, undef, undef, undef, undef, undef, undef, undef, undef, undef, undef, undef, undef, undef, undef, undef, undef, undef, undef, undef, undef, undef, undef, undef, undef, undef, undef, undef, undef, undef, undef, undef, undef, undef, undef, undef, undef, undef, undef], []⟩ w := by
  have HR0 := Aside0.mk hr0
  have HC0 := Aside0.mk hc0
  clear hr0 hc0
  have HR1 := Aside0.mk hr1
  have HC1 := Aside0.mk hc1
  clear hr1 hc1
  have HB := Aside0.mk (Below.refl w.heap.size w)
  have H : ((laws_big.f l0 l1).bind fun t436 => (if t436 = true then (some true) else (laws_FnJubileesCome.j0 k l0 l1))) = some true := h
  clear h
  replace H := Option.bind_eq_some_iff.mp H
  obtain ⟨t436, A30, H⟩ := H
  replace H : (if t436 = true then (some true) else (laws_FnJubileesCome.j0 k l0 l1)) = some true := H
  have A3 := Aside0.mk A30
  clear A30
  by_cases c4 : t436 = true
  · subst c4
    have H1 : (some true) = some true := by rw [if_pos rfl] at H; first | done | exact H
    clear H
    have H := H1
    clear H1
    clear H
    dsimp only [laws_FnJubileesCome.code0, withTail, dropSeq, Try.f3, Option.getD]
    go_wp2_with (first | ((with_reducible refine gate_callee (f := 4) rfl ?_); refine goesL_ (some 85) rfl rfl Try.func4 (by kernel_rfl) rfl #[.slice A0 l0.length c0, .slice A1 l1.length c1] rfl (by (try simp only [List.map_toArray, List.map_cons, List.map_nil]); first | done | rfl | (simp only [List.length_drop, List.length_take]; rfl)) ?_; (with_reducible refine (laws_big.calls _ _ l0 _ _ l1 true _ ?side1 ?side2 ?side3 ?side4 A3.out).mono ?_); (case side1 => repeat (first | exact HR0.out | (with_reducible refine Kd.C_alloc ?_ _) | (with_reducible refine Kd.C_drewN ?_ _) | (with_reducible refine Kd.C_drew ?_))); (case side2 => exact HC0.out); (case side3 => repeat (first | exact HR1.out | (with_reducible refine Kd.C_alloc ?_ _) | (with_reducible refine Kd.C_drewN ?_ _) | (with_reducible refine Kd.C_drew ?_))); (case side4 => exact HC1.out); rintro e w' ⟨rfl, ⟨nd, rfl⟩⟩; refine ⟨_, rfl, ?_⟩))
    go_ret
    exact ⟨by first | rfl | (simp [errW_none, errW_some] <;> rfl) | (simp [*, errW_none, errW_some] <;> rfl), by repeat (first | (with_reducible first | exact HB.out | apply below_alloc | apply pw_below_drewN | apply below_drew1) | exact HB.out)⟩
  replace c4 := Bool.eq_false_iff.mpr c4
  subst c4
  have H1 : (laws_FnJubileesCome.j0 k l0 l1) = some true := by rw [if_neg (show ¬ (false = true) by decide)] at H; first | done | exact H
  clear H
  have H := H1
  clear H1
  have H' := Aside0.mk H
  clear H
  dsimp only [laws_FnJubileesCome.code0, withTail, dropSeq, Try.f3, Option.getD]
  go_wp2_with (first | ((with_reducible refine gate_callee (f := 4) rfl ?_); refine goesL_ (some 85) rfl rfl Try.func4 (by kernel_rfl) rfl #[.slice A0 l0.length c0, .slice A1 l1.length c1] rfl (by (try simp only [List.map_toArray, List.map_cons, List.map_nil]); first | done | rfl | (simp only [List.length_drop, List.length_take]; rfl)) ?_; (with_reducible refine (laws_big.calls _ _ l0 _ _ l1 false _ ?side1 ?side2 ?side3 ?side4 A3.out).mono ?_); (case side1 => repeat (first | exact HR0.out | (with_reducible refine Kd.C_alloc ?_ _) | (with_reducible refine Kd.C_drewN ?_ _) | (with_reducible refine Kd.C_drew ?_))); (case side2 => exact HC0.out); (case side3 => repeat (first | exact HR1.out | (with_reducible refine Kd.C_alloc ?_ _) | (with_reducible refine Kd.C_drewN ?_ _) | (with_reducible refine Kd.C_drew ?_))); (case side4 => exact HC1.out); rintro e w' ⟨rfl, ⟨nd, rfl⟩⟩; refine ⟨_, rfl, ?_⟩))
  refine hR _ _ ?_
  unfold laws_FnJubileesCome.pre2
  exact ⟨_, ⟨rfl, rfl⟩, (by first | rfl | (show _ = _; simp [nthV]; done) | (simp [nthV, *]; done)), (by first | rfl | (show _ = _; simp [nthV]; done) | (simp [nthV, *]; done)), H', ⟨by repeat (first | (with_reducible first | exact HB.out | apply below_alloc | apply pw_below_drewN | apply below_drew1) | exact HB.out)⟩⟩

end Go.Proofs.Ytiacjmaofdimgaa.PFnJubileesCome
