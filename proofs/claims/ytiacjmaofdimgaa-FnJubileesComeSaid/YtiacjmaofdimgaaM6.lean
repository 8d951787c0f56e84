/- The drawn arguments exist: the cursor's words always answer, within their bounds. -/
import Derived.Test.YtiacjmaofdimgaaM5
namespace Go.Proofs.Ytiacjmaofdimgaa.PFnJubileesCome
open Go.RowKit Go.Proofs.YtiacjmaofdimgaaW.PrintWords Go.Proofs.YtiacjmaofdimgaaW.PrintLast
set_option linter.unusedVariables false
set_option linter.unusedSimpArgs false

/-- The code is bytes. -/
def Bytes (l : List Int) : Prop := ∀ x ∈ l, 0 ≤ x ∧ x ≤ 255
theorem Bytes.rd {l : List Int} (h : Bytes l) (i : Int) : 0 ≤ rd l i ∧ rd l i ≤ 255 := by
  unfold Go.Proofs.YtiacjmaofdimgaaW.PrintWords.rd
  rcases Nat.lt_or_ge i.toNat l.length with hl | hl
  · have : l.getD i.toNat 0 = l[i.toNat] := by simp [List.getD, hl]
    rw [this]; exact h _ (List.getElem_mem hl)
  · have : l.getD i.toNat 0 = 0 := by simp [List.getD, hl]
    rw [this]; omega
theorem wrapU_range (x : Int) : 0 ≤ IntKind.u64.wrap x ∧ IntKind.u64.wrap x < 18446744073709551616 := by
  rw [IntKind.wrap_u64]; omega
theorem and255 (x : Int) (h0 : 0 ≤ x) (h1 : x < 18446744073709551616) : 0 ≤ Go.bits .and .u64 x 255 ∧ Go.bits .and .u64 x 255 ≤ 255 := by
  have := bits_mask .u64 64 (by decide) (fun n a b => by rw [IntKind.wrap_u64]; omega) 8 (by decide) x h0 (by omega)
  have e : (2 : Int) ^ 8 - 1 = 255 := by decide
  rw [e] at this
  rw [this]
  omega
theorem next_ok (l : List Int) (hl : Bytes l) (at_ seed : Int) (h0 : 0 ≤ at_) (h1 : at_ ≤ 1000000000000) : ∃ v s, spec_l1Cur_next.f l at_ seed = some (v, at_ + 1, s) ∧ 0 ≤ v ∧ v ≤ 255 := by
  have hb := hl.rd at_
  unfold spec_l1Cur_next.f
  rw [w64 (x := at_ + 1) (by omega) (by omega), w64 (x := rd l at_) (by omega) (by omega)]
  by_cases c1 : at_ < (l.length : Int)
  · rw [if_pos c1, if_pos h0, if_pos (by omega)]
    exact ⟨_, _, rfl, hb⟩
  · rw [if_neg c1, if_neg (by omega)]
    refine ⟨_, _, rfl, ?_⟩
    have h := wrapU_range (IntKind.u64.wrap ((IntKind.u64.wrap (seed * 6364136223846793005))) + 1442695040888963407)
    have h2 := and255 (IntKind.u64.wrap (IntKind.u64.wrap ((IntKind.u64.wrap (seed * 6364136223846793005))) + 1442695040888963407) / 1099511627776) (by omega) (by omega)
    rw [w64 (by omega) (by omega)]
    exact h2
/-- What a pick says. -/
theorem pick_ok (l : List Int) (hl : Bytes l) (at_ seed n : Int) (h0 : 0 ≤ at_) (h1 : at_ ≤ 100000000000) (hn : n ≤ 1000000) : ∃ v a s, spec_l1Cur_pick.f l at_ seed n = some (v, a, s) ∧ at_ ≤ a ∧ a ≤ at_ + 2 ∧ 0 ≤ v ∧ (n ≤ 1 → v = 0) ∧ (1 < n → v < n) := by
  unfold spec_l1Cur_pick.f
  by_cases c1 : n ≤ 1
  · rw [if_pos c1]; exact ⟨0, at_, seed, rfl, by omega, by omega, by omega, fun _ => rfl, fun h => by omega⟩
  · rw [if_neg c1]
    obtain ⟨v, s, e, hv0, hv1⟩ := next_ok l hl at_ seed h0 (by omega)
    rw [e]
    simp only [Option.bind_some]
    by_cases c2 : n > 200
    · rw [if_pos c2]
      obtain ⟨v2, s2, e2, hv20, hv21⟩ := next_ok l hl (at_ + 1) s (by omega) (by omega)
      rw [e2]
      simp only [Option.bind_some]
      rw [if_neg (by omega), w64 (x := v * 256) (by omega) (by omega), w64 (by omega) (by omega)]
      have a1 := Int.tmod_nonneg (a := v * 256 + v2) n (by omega)
      have a2 := Int.tmod_lt_of_pos (v * 256 + v2) (b := n) (by omega)
      exact ⟨_, _, _, rfl, by omega, by omega, a1, fun h => by omega, fun _ => a2⟩
    · rw [if_neg c2, if_neg (by omega)]
      have a1 := Int.tmod_nonneg (a := v) n (by omega)
      have a2 := Int.tmod_lt_of_pos v (b := n) (by omega)
      exact ⟨_, _, _, rfl, by omega, by omega, a1, fun h => by omega, fun _ => a2⟩
theorem among_ok (l : List Int) (hl : Bytes l) (at_ seed : Int) (ys : List Int) (h0 : 0 ≤ at_) (h1 : at_ ≤ 100000000000) (hy : 0 < ys.length) (hy2 : ys.length ≤ 1000) : ∃ v a s, spec_l1Cur_among.f l at_ seed ys = some (v, a, s) ∧ at_ ≤ a ∧ a ≤ at_ + 2 ∧ v ∈ ys := by
  unfold spec_l1Cur_among.f
  obtain ⟨v, a, s, e, ha, hb, hv, h2, h3⟩ := pick_ok l hl at_ seed (ys.length : Int) h0 h1 (by omega)
  rw [e]
  simp only [Option.bind_some]
  have hlt : v < ys.length := by
    by_cases c : (ys.length : Int) ≤ 1
    · have := h2 c; omega
    · exact h3 (by omega)
  rw [if_pos hv, if_pos hlt]
  refine ⟨_, _, _, rfl, ha, hb, ?_⟩
  obtain ⟨n, rfl⟩ := Int.eq_ofNat_of_zero_le hv
  have hn : n < ys.length := by omega
  have : rd ys (n : Int) = ys[n] := by simp [rd, List.getD, hn]
  rw [this]; exact List.getElem_mem hn
theorem one_ok (l : List Int) (hl : Bytes l) (at_ seed n : Int) (h0 : 0 ≤ at_) (h1 : at_ ≤ 100000000000) (hn : n ≤ 1000000) : ∃ v a s, spec_l1Cur_one.f l at_ seed n = some (v, a, s) ∧ at_ ≤ a ∧ a ≤ at_ + 2 := by
  unfold spec_l1Cur_one.f
  obtain ⟨v, a, s, e, ha, hb, _⟩ := pick_ok l hl at_ seed n h0 h1 hn
  rw [e]; simp only [Option.bind_some]
  exact ⟨_, _, _, rfl, ha, hb⟩
theorem sureBorn_l0 (l : List Int) (hl : Bytes l) : ∀ (d k : Nat) (at_ seed : Int) (out : List Int), 0 ≤ at_ → at_ + 4 * d ≤ 1000000000 → d < k → out.length + d ≤ 1000 →
    ∃ r a s, spec_l1Cur_sureBorn.l0 k out (d : Int) l at_ seed = some (r, a, s) ∧ at_ ≤ a ∧ a ≤ at_ + 4 * d ∧ r.length = out.length + d := by
  intro d
  induction d with
  | zero =>
    intro k at_ seed out h0 h1 hk ho
    obtain ⟨k, rfl⟩ : ∃ m, k = m + 1 := ⟨k - 1, by omega⟩
    simp only [spec_l1Cur_sureBorn.l0]
    rw [if_neg (by omega)]
    exact ⟨_, _, _, rfl, by omega, by omega, by simp⟩
  | succ d ih =>
    intro k at_ seed out h0 h1 hk ho
    obtain ⟨k, rfl⟩ : ∃ m, k = m + 1 := ⟨k - 1, by omega⟩
    simp only [spec_l1Cur_sureBorn.l0]
    rw [if_pos (by omega)]
    obtain ⟨v, a, s, e, ha, hb, _⟩ := pick_ok l hl at_ seed 12 h0 (by omega) (by omega)
    rw [e]; simp only [Option.bind_some]
    obtain ⟨v2, a2, s2, e2, ha2, hb2, _⟩ := pick_ok l hl a s 3 (by omega) (by omega) (by omega)
    rw [e2]; simp only [Option.bind_some]
    rw [if_pos (by omega), w64 (x := ((d + 1 : Nat) : Int) - 1) (by omega) (by omega), show ((d + 1 : Nat) : Int) - 1 = (d : Int) from by omega]
    obtain ⟨r, a3, s3, e3, h3, h4, h5⟩ := ih k a2 s2 (out ++ [wrap64 ((wrap64 (1930 + (wrap64 (5 * v)))) + (wrap64 (Int.tdiv v2 2)))]) (by omega) (by omega) (by omega) (by simp; omega)
    exact ⟨r, a3, s3, e3, by omega, by omega, by simp at h5; omega⟩
theorem sureBorn_ok (k : Nat) (hk : 100 ≤ k) (l : List Int) (hl : Bytes l) (at_ seed most : Int) (h0 : 0 ≤ at_) (h1 : at_ ≤ 100000000) (hm : 1 ≤ most ∧ most ≤ 50) : ∃ r a s, spec_l1Cur_sureBorn.f k l at_ seed most = some (r, a, s) ∧ at_ ≤ a ∧ a ≤ at_ + 1000 ∧ r.length ≤ 50 := by
  unfold spec_l1Cur_sureBorn.f
  obtain ⟨v, a, s, e, ha, hb, hv, h2, h3⟩ := pick_ok l hl at_ seed most h0 (by omega) (by omega)
  rw [e]; simp only [Option.bind_some]
  have hv2 : v < most := by
    by_cases c : most ≤ 1
    · have := h2 c; omega
    · exact h3 (by omega)
  rw [w64 (by omega) (by omega)]
  obtain ⟨n, hn⟩ := Int.eq_ofNat_of_zero_le (show 0 ≤ 1 + v by omega)
  rw [hn]
  obtain ⟨r, a2, s2, e2, h4, h5, h6⟩ := sureBorn_l0 l hl n k a s [] (by omega) (by omega) (by omega) (by simp; omega)
  exact ⟨r, a2, s2, e2, by omega, by omega, by simp at h6; omega⟩
theorem born_l0 (l : List Int) (hl : Bytes l) : ∀ (d k : Nat) (at_ seed : Int) (out : List Int), 0 ≤ at_ → at_ + 2 * d + 2 ≤ 1000000000 → d < k → 12 ≤ out.length + d → out.length ≤ 100 →
    ∃ r a s, spec_l1Cur_born.l0 k out l at_ seed = some (r, a, s) ∧ at_ ≤ a ∧ a ≤ at_ + 2 * d + 2 ∧ r.length ≤ max out.length 12 := by
  intro d
  induction d with
  | zero =>
    intro k at_ seed out h0 h1 hk ho h2
    obtain ⟨k, rfl⟩ : ∃ m, k = m + 1 := ⟨k - 1, by omega⟩
    simp only [spec_l1Cur_born.l0]
    obtain ⟨v, a, s, e, ha, hb, hv, h3, h4⟩ := pick_ok l hl at_ seed 2 h0 (by omega) (by omega)
    have := h4 (by omega)
    rw [e]; simp only [Option.bind_some]
    rw [w64 (x := 10 + v) (by omega) (by omega), if_neg (by omega)]
    exact ⟨_, _, _, rfl, by omega, by omega, by omega⟩
  | succ d ih =>
    intro k at_ seed out h0 h1 hk ho h2
    obtain ⟨k, rfl⟩ : ∃ m, k = m + 1 := ⟨k - 1, by omega⟩
    simp only [spec_l1Cur_born.l0]
    obtain ⟨v, a, s, e, ha, hb, hv, h3, h4⟩ := pick_ok l hl at_ seed 2 h0 (by omega) (by omega)
    have := h4 (by omega)
    rw [e]; simp only [Option.bind_some]
    rw [w64 (x := 10 + v) (by omega) (by omega)]
    by_cases c : (out.length : Int) < 10 + v
    · rw [if_pos c, if_pos (by omega)]
      obtain ⟨r, a3, s3, e3, h5, h6, h7⟩ := ih k a s (out ++ [1970]) (by omega) (by omega) (by omega) (by simp; omega) (by simp; omega)
      exact ⟨r, a3, s3, e3, by omega, by omega, by simp at h7; omega⟩
    · rw [if_neg c]
      exact ⟨_, _, _, rfl, by omega, by omega, by omega⟩
theorem born_ok (k : Nat) (hk : 100 ≤ k) (l : List Int) (hl : Bytes l) (at_ seed : Int) (h0 : 0 ≤ at_) (h1 : at_ ≤ 10000000) : ∃ r a s, spec_l1Cur_born.f k l at_ seed = some (r, a, s) ∧ at_ ≤ a ∧ a ≤ at_ + 2000 ∧ r.length ≤ 60 := by
  unfold spec_l1Cur_born.f
  obtain ⟨r, a, s, e, ha, hb, hr⟩ := sureBorn_ok k hk l hl at_ seed 5 h0 (by omega) (by omega)
  rw [e]; simp only [Option.bind_some]
  obtain ⟨v, a2, s2, e2, ha2, hb2, hv, h3, h4⟩ := pick_ok l hl a s 20 (by omega) (by omega) (by omega)
  rw [e2]; simp only [Option.bind_some]
  by_cases c0 : v = 0
  · rw [if_pos c0]; exact ⟨_, _, _, rfl, by omega, by omega, by simp⟩
  · rw [if_neg c0]
    by_cases c1 : v = 1
    · rw [if_pos c1]
      obtain ⟨v3, a3, s3, e3, ha3, hb3, _⟩ := among_ok l hl a2 s2 [(-1), 0, 2900, 2901, 4611686018427387904] (by omega) (by omega) (by simp) (by simp)
      rw [e3]; simp only [Option.bind_some]
      rw [if_pos (by omega)]
      exact ⟨_, _, _, rfl, by omega, by omega, by simp; omega⟩
    · rw [if_neg c1]
      by_cases c2 : v = 2
      · rw [if_pos c2]
        obtain ⟨r3, a3, s3, e3, ha3, hb3, hr3⟩ := born_l0 l hl 12 k a2 s2 r (by omega) (by omega) (by omega) (by omega) (by omega)
        exact ⟨_, _, _, e3, by omega, by omega, by omega⟩
      · rw [if_neg c2]
        exact ⟨_, _, _, rfl, by omega, by omega, by omega⟩
theorem jubilee_ok (l : List Int) (hl : Bytes l) (at_ seed : Int) (h0 : 0 ≤ at_) (h1 : at_ ≤ 100000000) : ∃ v a s, spec_l1Cur_jubilee.f l at_ seed = some (v, a, s) ∧ at_ ≤ a ∧ a ≤ at_ + 2 := by
  unfold spec_l1Cur_jubilee.f
  obtain ⟨v3, a3, s3, e3, ha3, hb3, _⟩ := among_ok l hl at_ seed [1, 5, 5, 10, 10, 20, 25, 50, 100, 101, 0] (by omega) (by omega) (by simp) (by simp)
  rw [e3]; simp only [Option.bind_some]
  exact ⟨_, _, _, rfl, by omega, by omega⟩
theorem year_ok (l : List Int) (hl : Bytes l) (at_ seed : Int) (h0 : 0 ≤ at_) (h1 : at_ ≤ 100000000) : ∃ v a s, spec_l1Cur_year.f l at_ seed = some (v, a, s) ∧ at_ ≤ a ∧ a ≤ at_ + 4 := by
  unfold spec_l1Cur_year.f
  obtain ⟨v, a, s, e, ha, hb⟩ := one_ok l hl at_ seed 10 h0 (by omega) (by omega)
  rw [e]; simp only [Option.bind_some]
  by_cases c : v = true
  · rw [if_pos c]
    obtain ⟨v3, a3, s3, e3, ha3, hb3, _⟩ := among_ok l hl a s [(-1), 0, 1, 2999, 3000, 3001, 4611686018427387904] (by omega) (by omega) (by simp) (by simp)
    rw [e3]; simp only [Option.bind_some]
    exact ⟨_, _, _, rfl, by omega, by omega⟩
  · rw [if_neg c]
    obtain ⟨v3, a3, s3, e3, ha3, hb3, _⟩ := pick_ok l hl a s 110 (by omega) (by omega) (by omega)
    rw [e3]; simp only [Option.bind_some]
    exact ⟨_, _, _, rfl, by omega, by omega⟩
theorem least_ok (a b : Int) : ∃ v, spec_l1Least.f a b = some v := by
  unfold spec_l1Least.f
  split <;> exact ⟨_, rfl⟩
theorem span_ok (l : List Int) (hl : Bytes l) (at_ seed : Int) (h0 : 0 ≤ at_) (h1 : at_ ≤ 10000000) : ∃ v u a s, spec_l1Cur_span.f l at_ seed = some (v, u, a, s) ∧ at_ ≤ a ∧ a ≤ at_ + 10 := by
  unfold spec_l1Cur_span.f
  obtain ⟨v, a, s, e, ha, hb⟩ := year_ok l hl at_ seed h0 (by omega)
  rw [e]; simp only [Option.bind_some]
  obtain ⟨v2, a2, s2, e2, ha2, hb2⟩ := one_ok l hl a s 10 (by omega) (by omega) (by omega)
  rw [e2]; simp only [Option.bind_some]
  obtain ⟨m, em⟩ := least_ok v 5000
  rw [em]; simp only [Option.bind_some]
  by_cases c : v2 = true
  · rw [if_pos c]
    obtain ⟨v3, a3, s3, e3, ha3, hb3, _⟩ := among_ok l hl a2 s2 [(-1), 0, 199, 200, 201] (by omega) (by omega) (by simp) (by simp)
    rw [e3]; simp only [Option.bind_some]
    exact ⟨_, _, _, _, rfl, by omega, by omega⟩
  · rw [if_neg c]
    obtain ⟨v3, a3, s3, e3, ha3, hb3, _⟩ := pick_ok l hl a2 s2 50 (by omega) (by omega) (by omega)
    rw [e3]; simp only [Option.bind_some]
    exact ⟨_, _, _, _, rfl, by omega, by omega⟩
theorem drawCal_ok (k : Nat) (hk : 100 ≤ k) (l : List Int) (hl : Bytes l) : ∃ born a b e, spec_DrawCalendarOf.f k l = some (born, a, b, e) ∧ born.length ≤ 60 := by
  unfold spec_DrawCalendarOf.f spec_DrawCountJubilees.f
  obtain ⟨v, u, a, s, e, ha, hb⟩ := span_ok l hl 0 0 (by omega) (by omega)
  rw [e]; simp only [Option.bind_some]
  obtain ⟨r, a2, s2, e2, ha2, hb2, hr⟩ := born_ok k hk l hl a s (by omega) (by omega)
  rw [e2]; simp only [Option.bind_some]
  obtain ⟨v3, a3, s3, e3, _⟩ := jubilee_ok l hl a2 s2 (by omega) (by omega)
  rw [e3]; simp only [Option.bind_some]
  exact ⟨_, _, _, _, rfl, hr⟩
theorem drawNext_ok (k : Nat) (hk : 100 ≤ k) (l : List Int) (hl : Bytes l) : ∃ born y e, spec_DrawNextJubilee.f k l = some (born, y, e) ∧ born.length ≤ 60 := by
  unfold spec_DrawNextJubilee.f spec_DrawJubileesIn.f
  obtain ⟨r, a2, s2, e2, ha2, hb2, hr⟩ := born_ok k hk l hl 0 0 (by omega) (by omega)
  rw [e2]; simp only [Option.bind_some]
  obtain ⟨v, a, s, e, ha, hb⟩ := year_ok l hl a2 s2 (by omega) (by omega)
  rw [e]; simp only [Option.bind_some]
  obtain ⟨v3, a3, s3, e3, _⟩ := jubilee_ok l hl a s (by omega) (by omega)
  rw [e3]; simp only [Option.bind_some]
  exact ⟨_, _, _, rfl, hr⟩
theorem drawTog_ok (k : Nat) (hk : 100 ≤ k) (l : List Int) (hl : Bytes l) : ∃ born e, spec_DrawTogetherJubilees.f k l = some (born, e) ∧ born.length ≤ 60 := by
  unfold spec_DrawTogetherJubilees.f
  obtain ⟨r, a2, s2, e2, ha2, hb2, hr⟩ := born_ok k hk l hl 0 0 (by omega) (by omega)
  rw [e2]; simp only [Option.bind_some]
  obtain ⟨v3, a3, s3, e3, _⟩ := jubilee_ok l hl a2 s2 (by omega) (by omega)
  rw [e3]; simp only [Option.bind_some]
  exact ⟨_, _, rfl, hr⟩
theorem drawAnn_ok (l : List Int) (hl : Bytes l) : ∃ s a b e, spec_DrawAnniversaries.f l = some (s, a, b, e) := by
  unfold spec_DrawAnniversaries.f
  obtain ⟨v, u, a, s, e, ha, hb⟩ := span_ok l hl 0 0 (by omega) (by omega)
  rw [e]; simp only [Option.bind_some]
  obtain ⟨v2, a2, s2, e2, ha2, hb2⟩ := year_ok l hl a s (by omega) (by omega)
  rw [e2]; simp only [Option.bind_some]
  obtain ⟨v3, a3, s3, e3, _⟩ := jubilee_ok l hl a2 s2 (by omega) (by omega)
  rw [e3]; simp only [Option.bind_some]
  exact ⟨_, _, _, _, rfl⟩
end Go.Proofs.Ytiacjmaofdimgaa.PFnJubileesCome
