/- The most jubilees and the longest quiet part. -/
import Derived.Test.YtiacjmaofdimgaaM2
namespace Go.Proofs.Ytiacjmaofdimgaa.PFnJubileesCome
open Go.RowKit Go.Proofs.YtiacjmaofdimgaaW.PrintWords Go.Proofs.YtiacjmaofdimgaaW.PrintLast
set_option linter.unusedVariables false
set_option linter.unusedSimpArgs false

/-! ### the most -/
def mostY (xs : List Int) (e : Int) : Nat → Int → Int × Int → Int × Int
  | 0, _, s => s
  | d + 1, y, s => mostY xs e d (y + 1) (if ((jub xs y e).length : Int) > s.2 then (y, ((jub xs y e).length : Int)) else s)
theorem most_rows (xs : List Int) (e : Int) (rows : List (List Int)) (g : Good xs e) (hn : rows.length ≤ 1000) : ∀ (d i k : Nat) (y : Int) (s : Int × Int), rows.drop i = calL xs e d y → (calL xs e d y).length < k → 0 ≤ s.2 → s.2 ≤ 10 →
    impl_MostJubilees.l0 k s.1 s.2 rows (rows.length : Int) (i : Int) = some ((mostY xs e d y s).1, (mostY xs e d y s).2, true) := by
  intro d
  induction d with
  | zero =>
    intro i k y s h hk h0 h1
    obtain ⟨k, rfl⟩ : ∃ m, k = m + 1 := ⟨k - 1, by omega⟩
    have : rows.length ≤ i := by simpa [calL] using h
    simp only [impl_MostJubilees.l0]
    rw [if_neg (by omega)]
    simp [mostY]
  | succ d ih =>
    intro i k y s h hk h0 h1
    have hj := g.jlen y
    unfold calL at h hk
    by_cases hp : 0 < (jub xs y e).length
    · rw [if_pos hp] at h hk
      obtain ⟨k, rfl⟩ : ∃ m, k = m + 1 := ⟨k - 1, by omega⟩
      obtain ⟨hl, hrd, hd⟩ := rd2_of_drop h
      simp only [impl_MostJubilees.l0, mostY]
      simp at hk
      rw [if_pos (by omega), if_pos (by omega), if_pos (by omega), hrd, w_succ i (by omega)]
      have hlen : ((y :: jub xs y e).length : Int) = (jub xs y e).length + 1 := by simp
      rw [hlen, w64 (by omega) (by omega), show ((jub xs y e).length : Int) + 1 - 1 = (jub xs y e).length from by omega]
      by_cases hc : ((jub xs y e).length : Int) > s.2
      · rw [if_pos hc, if_pos (by omega), if_pos hc]
        exact ih (i + 1) k (y + 1) (y, ((jub xs y e).length : Int)) hd (by omega) (by simp) (by simp <;> omega)
      · rw [if_neg hc, if_neg hc]
        exact ih (i + 1) k (y + 1) s hd (by omega) h0 h1
    · rw [if_neg hp] at h hk
      rw [mostY, if_neg (by omega)]
      exact ih i k (y + 1) s h hk h0 h1
theorem most_years (xs : List Int) (e tt : Int) (g : Good xs e) : ∀ (d k : Nat) (y : Int) (s : Int × Int), 0 ≤ y → y + d = tt + 1 → tt ≤ 3000 → d + 11 < k →
    spec_MostJubilees.l0 k xs tt e s.1 s.2 y = some ((mostY xs e d y s).1, (mostY xs e d y s).2, true) := by
  intro d
  induction d with
  | zero =>
    intro k y s h0 h1 h2 hk
    obtain ⟨k, rfl⟩ : ∃ m, k = m + 1 := ⟨k - 1, by omega⟩
    simp only [spec_MostJubilees.l0]
    rw [if_neg (by omega)]
    simp [mostY]
  | succ d ih =>
    intro k y s h0 h1 h2 hk
    obtain ⟨k, rfl⟩ : ∃ m, k = m + 1 := ⟨k - 1, by omega⟩
    simp only [spec_MostJubilees.l0, mostY]
    rw [if_pos (by omega), g.spec k (by omega) ⟨by omega, by omega⟩]
    simp only [Option.bind_some]
    rw [w64 (x := y + 1) (by omega) (by omega)]
    by_cases hc : ((jub xs y e).length : Int) > s.2
    · rw [if_pos hc, if_pos hc]
      exact ih k (y + 1) (y, ((jub xs y e).length : Int)) (by omega) (by omega) h2 (by omega)
    · rw [if_neg hc, if_neg hc]
      exact ih k (y + 1) s (by omega) (by omega) h2 (by omega)
def mostOf (xs : List Int) (a b e : Int) : Int × Int := mostY xs e (b - a + 1).toNat a (a, 0)
theorem mostOf_spec {xs : List Int} {a b e : Int} (h : a ≤ b) : mostY xs e (b - a + 1).toNat a (a, -1) = mostOf xs a b e := by
  unfold mostOf
  obtain ⟨d, hd⟩ : ∃ d, (b - a + 1).toNat = d + 1 := ⟨(b - a).toNat, by omega⟩
  rw [hd]
  simp only [mostY]
  rw [if_pos (by omega)]
  split
  · rfl
  · rename_i h0
    have : ((jub xs a e).length : Int) = 0 := by omega
    rw [this]
theorem Most_v (k : Nat) (xs : List Int) (a b e : Int) (hk : 1000 ≤ k) : impl_MostJubilees.f k xs a b e = some (if allB xs a b e = true then ((mostOf xs a b e).1, (mostOf xs a b e).2, true) else (0, 0, false)) := by
  unfold impl_MostJubilees.f
  rw [calendar_v k xs a b e hk]
  simp only [Option.bind_some]
  by_cases h : allB xs a b e = true
  · rw [if_pos h, if_pos h]
    obtain ⟨h1, h2, h3⟩ := allB_iff.1 h
    have g := Good.of h1 h3
    have hl := calOf_length (xs := xs) (e := e) h2
    simp only [if_true]
    have := most_rows xs e (calOf xs a b e) g (by omega) (b - a + 1).toNat 0 k a (a, 0) (List.drop_zero) (by unfold calOf at hl; omega) (by simp) (by simp)
    exact this
  · rw [if_neg h, if_neg h]
    simp
theorem specMost_v (k : Nat) (xs : List Int) (a b e : Int) (hk : 1000 ≤ k) (hx : xs.length < 500) : spec_MostJubilees.f k xs a b e = some (if allB xs a b e = true then ((mostOf xs a b e).1, (mostOf xs a b e).2, true) else (0, 0, false)) := by
  unfold spec_MostJubilees.f
  rw [roAll_v k xs a b e (by omega) (by omega)]
  simp only [Option.bind_some]
  show (if allB xs a b e = true then _ else _) = _
  by_cases h : allB xs a b e = true
  · rw [if_pos h, if_pos h]
    obtain ⟨h1, h2, h3⟩ := allB_iff.1 h
    have g := Good.of h1 h3
    have := spanB_len h2
    rw [spanB_iff] at h2
    have := most_years xs e b g (b - a + 1).toNat k a (a, -1) (by omega) (by omega) (by omega) (by omega)
    rw [mostOf_spec h2.2.1] at this
    exact this
  · rw [if_neg h, if_neg h]
/-- What the most says of each year: no year has more, the first of those that have as many. -/
theorem mostY_says (xs : List Int) (e : Int) : ∀ (d : Nat) (y : Int) (s : Int × Int), s.1 ≤ y → 
    let r := mostY xs e d y s
    s.2 ≤ r.2 ∧ (r = s ∨ (y ≤ r.1 ∧ r.1 < y + d ∧ ((jub xs r.1 e).length : Int) = r.2 ∧ s.2 < r.2)) ∧ (∀ z, y ≤ z → z < y + d → ((jub xs z e).length : Int) ≤ r.2 ∧ (((jub xs z e).length : Int) = r.2 → r.1 ≤ z)) := by
  intro d
  induction d with
  | zero =>
    intro y s hs
    refine ⟨Int.le_refl _, .inl rfl, fun z h1 h2 => by omega⟩
  | succ d ih =>
    intro y s hs
    simp only [mostY]
    by_cases hc : ((jub xs y e).length : Int) > s.2
    · rw [if_pos hc]
      obtain ⟨h1, h2, h3⟩ := ih (y + 1) (y, ((jub xs y e).length : Int)) (by simp <;> omega)
      simp only at h1 h2 h3 ⊢
      refine ⟨by omega, ?_, ?_⟩
      · right
        rcases h2 with h2 | h2
        · rw [h2]; exact ⟨by simp, by simp <;> omega, by simp, by simpa using hc⟩
        · exact ⟨by omega, by omega, h2.2.2.1, by omega⟩
      · intro z hz1 hz2
        by_cases hz : z = y
        · subst hz
          refine ⟨h1, fun hq => ?_⟩
          rcases h2 with h2 | h2
          · rw [h2]; simp
          · omega
        · exact h3 z (by omega) (by omega)
    · rw [if_neg hc]
      obtain ⟨h1, h2, h3⟩ := ih (y + 1) s (by omega)
      refine ⟨h1, ?_, ?_⟩
      · rcases h2 with h2 | h2
        · exact .inl h2
        · exact .inr ⟨by omega, by omega, h2.2.2.1, h2.2.2.2⟩
      · intro z hz1 hz2
        by_cases hz : z = y
        · subst hz
          refine ⟨by omega, fun hq => ?_⟩
          rcases h2 with h2 | h2
          · rw [h2]; exact hs
          · omega
        · exact h3 z (by omega) (by omega)

/-! ### the longest quiet part -/
/-- The answer out of what was found. -/
def quietF (s : Int × Int × Int) : Int × Int × Bool := if s.2.1 = 0 then (0, 0, false) else (s.1, s.2.1, true)
/-- (its first year, how long it is, how long the one is in which we are) -/
def quietY (xs : List Int) (e : Int) : Nat → Int → Int × Int × Int → Int × Int × Int
  | 0, _, s => s
  | d + 1, y, s => quietY xs e d (y + 1) (if 0 < (jub xs y e).length then (s.1, s.2.1, 0) else if s.2.2 + 1 > s.2.1 then (y - s.2.2, s.2.2 + 1, s.2.2 + 1) else (s.1, s.2.1, s.2.2 + 1))
theorem quiet_years (xs : List Int) (e tt : Int) (g : Good xs e) : ∀ (d k : Nat) (y : Int) (s : Int × Int × Int), 0 ≤ y → y + d = tt + 1 → tt ≤ 3000 → d + 11 < k → 0 ≤ s.2.1 → s.2.1 + d ≤ 100000 → 0 ≤ s.2.2 → s.2.2 + d ≤ 100000 →
    spec_LongestQuiet.l0 k xs tt e s.1 s.2.1 s.2.2 y = some (quietF (quietY xs e d y s)) := by
  intro d
  induction d with
  | zero =>
    intro k y s h0 h1 h2 hk a1 a2 a3 a4
    obtain ⟨k, rfl⟩ : ∃ m, k = m + 1 := ⟨k - 1, by omega⟩
    simp only [spec_LongestQuiet.l0]
    rw [if_neg (by omega)]
    simp only [quietY, quietF]
    split <;> simp [*]
  | succ d ih =>
    intro k y s h0 h1 h2 hk a1 a2 a3 a4
    obtain ⟨k, rfl⟩ : ∃ m, k = m + 1 := ⟨k - 1, by omega⟩
    simp only [spec_LongestQuiet.l0, quietY]
    rw [if_pos (by omega), g.spec k (by omega) ⟨by omega, by omega⟩]
    simp only [Option.bind_some]
    rw [w64 (x := y + 1) (by omega) (by omega), w64 (x := s.2.2 + 1) (by omega) (by omega), w64 (x := y) (by omega) (by omega), w64 (x := y + 1) (by omega) (by omega), w64 (x := y - (s.2.2 + 1)) (by omega) (by omega), w64 (by omega) (by omega)]
    by_cases hp : 0 < (jub xs y e).length
    · rw [if_pos (by omega), if_neg (by omega), if_pos hp]
      exact ih k (y + 1) (s.1, s.2.1, 0) (by omega) (by omega) h2 (by omega) (by simp <;> omega) (by simp <;> omega) (by simp) (by simp <;> omega)
    · rw [if_neg (by omega), if_neg hp]
      by_cases hc : s.2.2 + 1 > s.2.1
      · rw [if_pos hc, if_pos hc, show y - (s.2.2 + 1) + 1 = y - s.2.2 from by omega]
        exact ih k (y + 1) (y - s.2.2, s.2.2 + 1, s.2.2 + 1) (by omega) (by omega) h2 (by omega) (by simp <;> omega) (by simp <;> omega) (by simp <;> omega) (by simp <;> omega)
      · rw [if_neg hc, if_neg hc]
        exact ih k (y + 1) (s.1, s.2.1, s.2.2 + 1) (by omega) (by omega) h2 (by omega) (by simp <;> omega) (by simp <;> omega) (by simp <;> omega) (by simp <;> omega)
/-- The program's loop over the rows: it knows only the last end, 'next'. -/
theorem quiet_rows (xs : List Int) (e tt : Int) (rows : List (List Int)) (g : Good xs e) (hn : rows.length ≤ 1000) (ht : 0 ≤ tt ∧ tt ≤ 3000) : ∀ (d i k : Nat) (y best longest next : Int) (s : Int × Int × Int), rows.drop i = calL xs e d y ++ [[tt + 1]] → (calL xs e d y).length + 1 < k → 0 ≤ y → y + d = tt + 1 →
    0 ≤ next → next ≤ y → 0 ≤ longest → longest ≤ 5000 → (longest = 0 → best = 0) → s.2.2 = y - next → (s.1, s.2.1) = (if y - next > longest then (next, y - next) else (best, longest)) →
    impl_LongestQuiet.l0 k best longest next rows (rows.length : Int) (i : Int) = some (quietF (quietY xs e d y s)) := by
  intro d
  induction d with
  | zero =>
    intro i k y best longest next s h hk h0 h1 n0 n1 l0 l1 lb sr sb
    simp only [calL, List.nil_append, List.length_nil] at h hk
    obtain ⟨k, rfl⟩ : ∃ m, k = m + 1 := ⟨k - 1, by omega⟩
    obtain ⟨hl, hrd, hd⟩ := rd2_of_drop h
    have hlen : rows.length ≤ i + 1 := by simpa using hd
    simp only [impl_LongestQuiet.l0, quietY]
    rw [if_pos (by omega), if_pos (by omega), if_pos (by omega), hrd, if_pos (by simp), w_succ i (by omega)]
    rw [show rd [tt + 1] 0 = tt + 1 from rfl, w64 (x := tt + 1 - next) (by omega) (by omega), w64 (x := tt + 1 + 1) (by omega) (by omega)]
    obtain ⟨k, rfl⟩ : ∃ m, k = m + 1 := ⟨k - 1, by omega⟩
    have hy : y = tt + 1 := by omega
    subst hy
    by_cases hc : tt + 1 - next > longest
    · rw [if_pos hc] at sb ⊢
      simp only [impl_LongestQuiet.l0]
      rw [if_neg (by omega)]
      obtain ⟨e1, e2⟩ := Prod.mk.inj sb
      unfold quietF
      rw [if_neg (by omega), e1, e2, decide_eq_true (by omega)]
    · rw [if_neg hc] at sb ⊢
      simp only [impl_LongestQuiet.l0]
      rw [if_neg (by omega)]
      obtain ⟨e1, e2⟩ := Prod.mk.inj sb
      unfold quietF
      rw [e1, e2]
      by_cases hz : longest = 0
      · rw [if_pos hz, lb hz, hz, decide_eq_false (by omega)]
      · rw [if_neg hz, decide_eq_true (by omega)]
  | succ d ih =>
    intro i k y best longest next s h hk h0 h1 n0 n1 l0 l1 lb sr sb
    have hj := g.jlen y
    unfold calL at h hk
    simp only [quietY]
    by_cases hp : 0 < (jub xs y e).length
    · rw [if_pos hp] at h hk ⊢
      obtain ⟨k, rfl⟩ : ∃ m, k = m + 1 := ⟨k - 1, by omega⟩
      rw [List.cons_append] at h
      obtain ⟨hl, hrd, hd⟩ := rd2_of_drop h
      simp only [impl_LongestQuiet.l0]
      simp at hk
      rw [if_pos (by omega), if_pos (by omega), if_pos (by omega), hrd, if_pos (by simp <;> omega), w_succ i (by omega)]
      rw [show rd (y :: jub xs y e) 0 = y from rfl, w64 (x := y - next) (by omega) (by omega), w64 (x := y + 1) (by omega) (by omega)]
      by_cases hc : y - next > longest
      · rw [if_pos hc] at sb ⊢
        obtain ⟨e1, e2⟩ := Prod.mk.inj sb
        exact ih (i + 1) k (y + 1) next (y - next) (y + 1) (s.1, s.2.1, 0) hd (by omega) (by omega) (by omega) (by omega) (by omega) (by omega) (by omega) (by omega) (by simp <;> omega) (by simp only; rw [if_neg (by omega), e1, e2])
      · rw [if_neg hc] at sb ⊢
        obtain ⟨e1, e2⟩ := Prod.mk.inj sb
        exact ih (i + 1) k (y + 1) best longest (y + 1) (s.1, s.2.1, 0) hd (by omega) (by omega) (by omega) (by omega) (by omega) (by omega) (by omega) lb (by simp <;> omega) (by simp only; rw [if_neg (by omega), e1, e2])
    · rw [if_neg hp] at h hk ⊢
      refine ih i k (y + 1) best longest next _ h hk (by omega) (by omega) n0 (by omega) l0 l1 lb ?_ ?_
      · split <;> simp <;> omega
      · by_cases hc : y - next > longest
        · rw [if_pos hc] at sb
          obtain ⟨e1, e2⟩ := Prod.mk.inj sb
          rw [if_pos (by omega), if_pos (by omega)]
          simp; omega
        · rw [if_neg hc] at sb
          obtain ⟨e1, e2⟩ := Prod.mk.inj sb
          by_cases hc2 : y + 1 - next > longest
          · rw [if_pos (by omega), if_pos hc2]; simp; omega
          · rw [if_neg (by omega), if_neg hc2]; simp [e1, e2]
def quietOf (xs : List Int) (a b e : Int) : Int × Int × Int := quietY xs e (b - a + 1).toNat a (0, 0, 0)
def quietR (xs : List Int) (a b e : Int) : Int × Int × Bool := if allB xs a b e = true then quietF (quietOf xs a b e) else (0, 0, false)
theorem Quiet_v (k : Nat) (xs : List Int) (a b e : Int) (hk : 1000 ≤ k) : impl_LongestQuiet.f k xs a b e = some (quietR xs a b e) := by
  unfold impl_LongestQuiet.f quietR
  rw [calendar_v k xs a b e hk]
  simp only [Option.bind_some]
  by_cases h : allB xs a b e = true
  · rw [if_pos h, if_pos h]
    obtain ⟨h1, h2, h3⟩ := allB_iff.1 h
    have g := Good.of h1 h3
    have hl := calOf_length (xs := xs) (e := e) h2
    have hl2 := calL_length xs e (b - a + 1).toNat a
    rw [spanB_iff] at h2
    simp only [if_true]
    rw [if_pos (by omega), w64 (by omega) (by omega)]
    have := quiet_rows xs e b (calOf xs a b e ++ [[b + 1]]) g (by simp <;> omega) (by omega) (b - a + 1).toNat 0 k a 0 0 a (0, 0, 0) (by simp [calOf]) (by omega) (by omega) (by omega) (by omega) (by omega) (by omega) (by omega) (fun _ => rfl) (by simp) (by simp)
    exact this
  · rw [if_neg h, if_neg h]
    simp
theorem specQuiet_v (k : Nat) (xs : List Int) (a b e : Int) (hk : 1000 ≤ k) (hx : xs.length < 500) : spec_LongestQuiet.f k xs a b e = some (quietR xs a b e) := by
  unfold spec_LongestQuiet.f quietR
  rw [roAll_v k xs a b e (by omega) (by omega)]
  simp only [Option.bind_some]
  show (if allB xs a b e = true then _ else _) = _
  by_cases h : allB xs a b e = true
  · rw [if_pos h, if_pos h]
    obtain ⟨h1, h2, h3⟩ := allB_iff.1 h
    have g := Good.of h1 h3
    have := spanB_len h2
    rw [spanB_iff] at h2
    exact quiet_years xs e b g (b - a + 1).toNat k a (0, 0, 0) (by omega) (by omega) (by omega) (by omega) (by simp) (by simp <;> omega) (by simp) (by simp <;> omega)
  · rw [if_neg h, if_neg h]
end Go.Proofs.Ytiacjmaofdimgaa.PFnJubileesCome
