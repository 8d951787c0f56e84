/- The law's own words on lists (same, rises, has), and the jubilees of a year, the next one, the oldest, those together, anniversaries. -/
import Derived.Test.YtiacjmaofdimgaaM3
namespace Go.Proofs.Ytiacjmaofdimgaa.PFnJubileesCome
open Go.RowKit Go.Proofs.YtiacjmaofdimgaaW.PrintWords Go.Proofs.YtiacjmaofdimgaaW.PrintLast
set_option linter.unusedVariables false
set_option linter.unusedSimpArgs false

/-! ### same, rises, has -/
theorem qSame_l0 (xs : List Int) : ∀ (rest : List Int) (i k : Nat), xs.drop i = rest → rest.length < k → xs.length < 1000000 → laws_qSame.l0 k xs xs (xs.length : Int) (i : Int) = some true := by
  intro rest
  induction rest with
  | nil =>
    intro i k h hk hx
    obtain ⟨k, rfl⟩ : ∃ m, k = m + 1 := ⟨k - 1, by omega⟩
    have : xs.length ≤ i := by simpa using h
    simp only [laws_qSame.l0]
    rw [if_neg (by omega)]
  | cons b bs ih =>
    intro i k h hk hx
    obtain ⟨k, rfl⟩ : ∃ m, k = m + 1 := ⟨k - 1, by omega⟩
    obtain ⟨hl, hr, hd⟩ := rd_of_drop h
    simp only [laws_qSame.l0]
    simp at hk
    rw [if_pos (by omega), if_pos (by omega), if_pos (by omega), if_pos (by omega), if_pos trivial, w_succ i (by omega)]
    exact ih (i + 1) k hd (by omega) hx
theorem qSame_self (k : Nat) (xs : List Int) (hk : xs.length < k) (hx : xs.length < 1000000) : laws_qSame.f k xs xs = some true := by
  unfold laws_qSame.f
  rw [if_pos rfl]
  exact qSame_l0 xs xs 0 k (by simp) hk hx
theorem qRows_l0 (xs : List (List Int)) (hr : ∀ r ∈ xs, r.length ≤ 11) : ∀ (rest : List (List Int)) (i k : Nat), xs.drop i = rest → rest.length + 12 < k → xs.length < 1000000 → laws_qRows.l0 k xs xs (xs.length : Int) (i : Int) = some true := by
  intro rest
  induction rest with
  | nil =>
    intro i k h hk hx
    obtain ⟨k, rfl⟩ : ∃ m, k = m + 1 := ⟨k - 1, by omega⟩
    have : xs.length ≤ i := by simpa using h
    simp only [laws_qRows.l0]
    rw [if_neg (by omega)]
  | cons b bs ih =>
    intro i k h hk hx
    obtain ⟨k, rfl⟩ : ∃ m, k = m + 1 := ⟨k - 1, by omega⟩
    obtain ⟨hl, hrd, hd⟩ := rd2_of_drop h
    have hb := hr b (by rw [← List.take_append_drop i xs, h]; simp)
    simp only [laws_qRows.l0]
    simp at hk
    rw [if_pos (by omega), if_pos (by omega), if_pos (by omega), if_pos (by omega), hrd, qSame_self k b (by omega) (by omega)]
    simp only [Option.bind_some]
    rw [if_pos trivial, w_succ i (by omega)]
    exact ih (i + 1) k hd (by omega) hx
theorem qRows_self (k : Nat) (xs : List (List Int)) (hr : ∀ r ∈ xs, r.length ≤ 11) (hk : xs.length + 12 < k) (hx : xs.length < 1000000) : laws_qRows.f k xs xs = some true := by
  unfold laws_qRows.f
  rw [if_pos rfl]
  exact qRows_l0 xs hr xs 0 k (by simp) hk hx
/-- Each number is greater than the one ahead of it. -/
def Rise : List Int → Prop
  | [] => True
  | [_] => True
  | a :: b :: r => a < b ∧ Rise (b :: r)
theorem Rise.tail {a : Int} {r : List Int} (h : Rise (a :: r)) : Rise r := by
  cases r with
  | nil => trivial
  | cons b r => exact h.2
theorem qRises_l0 (xs : List Int) : ∀ (rest : List Int) (a : Int) (i k : Nat), xs.drop i = a :: rest → Rise (a :: rest) → rest.length < k → xs.length < 1000000 → laws_qRises.l0 k xs ((i + 1 : Nat) : Int) = some true := by
  intro rest
  induction rest with
  | nil =>
    intro a i k h hr hk hx
    obtain ⟨k, rfl⟩ : ∃ m, k = m + 1 := ⟨k - 1, by omega⟩
    obtain ⟨hl, _, hd⟩ := rd_of_drop h
    have : xs.length ≤ i + 1 := by simpa using hd
    simp only [laws_qRises.l0]
    rw [if_neg (by omega)]
  | cons b bs ih =>
    intro a i k h hr hk hx
    obtain ⟨k, rfl⟩ : ∃ m, k = m + 1 := ⟨k - 1, by omega⟩
    obtain ⟨hl, hra, hd⟩ := rd_of_drop h
    obtain ⟨hl2, hrb, hd2⟩ := rd_of_drop hd
    simp only [laws_qRises.l0]
    simp at hk
    have e1 : wrap64 (((i + 1 : Nat) : Int) - 1) = (i : Int) := by rw [w64 (by omega) (by omega)]; omega
    rw [if_pos (by omega), e1, if_pos (by omega), if_pos (by omega), if_pos (by omega), hra, hrb, if_neg (by have := hr.1; omega), w_succ (i + 1) (by omega)]
    exact ih b (i + 1) k hd hr.2 (by omega) hx
theorem qRises_v (k : Nat) (xs : List Int) (hr : Rise xs) (hk : xs.length < k) (hx : xs.length < 1000000) : laws_qRises.f k xs = some true := by
  unfold laws_qRises.f
  cases xs with
  | nil =>
    obtain ⟨k, rfl⟩ : ∃ m, k = m + 1 := ⟨k - 1, by omega⟩
    simp [laws_qRises.l0]
  | cons a r =>
    have := qRises_l0 (a :: r) r a 0 k (by simp) hr (by simp at hk; omega) hx
    simpa using this
/-! ### jubilees in a year -/
theorem jubL_rise (y e : Int) : ∀ (xs : List Int) (i : Int), Rise (jubL y e xs i) ∧ ∀ j ∈ jubL y e xs i, i ≤ j ∧ j < i + xs.length := by
  intro xs
  induction xs with
  | nil => intro i; exact ⟨trivial, fun j hj => by simp [jubL] at hj⟩
  | cons b bs ih =>
    intro i
    obtain ⟨h1, h2⟩ := ih (i + 1)
    unfold jubL
    split
    · refine ⟨?_, ?_⟩
      · cases hq : jubL y e bs (i + 1) with
        | nil => trivial
        | cons c cs =>
          rw [hq] at h1 h2
          exact ⟨by have := (h2 c (by simp)).1; omega, h1⟩
      · intro j hj
        rcases List.mem_cons.1 hj with rfl | hj
        · simp; omega
        · have := h2 j hj; simp; omega
    · exact ⟨h1, fun j hj => by have := h2 j hj; simp; omega⟩
theorem jubL_mem (y e : Int) : ∀ (xs : List Int) (i : Int) (j : Nat), (i + j ∈ jubL y e xs i) ↔ (j < xs.length ∧ jubOk y e (xs.getD j 0) = true) := by
  intro xs
  induction xs with
  | nil => intro i j; simp [jubL]
  | cons b bs ih =>
    intro i j
    have hr := (jubL_rise y e bs (i + 1)).2
    unfold jubL
    cases j with
    | zero =>
      have hn : i ∉ jubL y e bs (i + 1) := fun h => by have := hr i h; omega
      split
      · rename_i h; simp [h]
      · rename_i h; simp [h, hn]
    | succ j =>
      have e1 : i + ((j + 1 : Nat) : Int) = i + 1 + (j : Int) := by omega
      have := ih (i + 1) j
      rw [e1]
      split
      · rw [List.mem_cons, this]
        have : ¬ (i + 1 + (j : Int) = i) := by omega
        simp [this]
      · rw [this]; simp
theorem jub_mem (xs : List Int) (y e : Int) (j : Nat) : ((j : Int) ∈ jub xs y e) ↔ (j < xs.length ∧ jubOk y e (xs.getD j 0) = true) := by
  have := jubL_mem y e xs 0 j
  simpa [jub] using this
theorem jub_rise (xs : List Int) (y e : Int) : Rise (jub xs y e) := (jubL_rise y e xs 0).1
theorem jub_range (xs : List Int) (y e : Int) : ∀ j ∈ jub xs y e, 0 ≤ j ∧ j < xs.length := fun j hj => by have := (jubL_rise y e xs 0).2 j hj; omega
def inR (xs : List Int) (y e : Int) : Bool := goodB xs && inB 0 3000 y && inB 1 100 e
theorem inR_iff {xs : List Int} {y e : Int} : inR xs y e = true ↔ goodB xs = true ∧ inB 0 3000 y = true ∧ inB 1 100 e = true := by simp only [inR, Bool.and_eq_true, and_assoc]
theorem JubileesIn_v (k : Nat) (xs : List Int) (y e : Int) (hk : 20 ≤ k) : impl_JubileesIn.f k xs y e = some (if inR xs y e = true then (jub xs y e, true) else ([], false)) := by
  unfold impl_JubileesIn.f inR
  rw [AreBirths_v, isYear_v, isEvery_v]
  simp only [Option.bind_some]
  by_cases h1 : goodB xs = true
  · by_cases h2 : inB 0 3000 y = true
    · by_cases h3 : inB 1 100 e = true
      · simp only [h1, h2, h3, if_true, Bool.and_self]
        rw [(Good.of h1 h3).imp k (by omega) (inB_iff.1 h2)]
        simp
      · simp only [Bool.not_eq_true] at h3; simp [h1, h2, h3]
    · simp only [Bool.not_eq_true] at h2; simp [h1, h2]
  · simp only [Bool.not_eq_true] at h1; simp [h1]
theorem roYear_v (k : Nat) (xs : List Int) (y : Int) (hk : xs.length < k) (hx : xs.length < 1000000) : spec_roYear.f k xs y = some (goodB xs && inB 0 3000 y) := by
  unfold spec_roYear.f
  rw [roBorn_v k xs hk hx, l1In_v]
  simp only [Option.bind_some]
  cases h : goodB xs <;> simp [inB]
theorem specJubileesIn_v (k : Nat) (xs : List Int) (y e : Int) (hk : 600 ≤ k) (hx : xs.length < 500) : spec_JubileesIn.f k xs y e = some (if inR xs y e = true then (jub xs y e, true) else ([], false)) := by
  unfold spec_JubileesIn.f inR
  rw [roYear_v k xs y (by omega) (by omega), roEvery_v]
  simp only [Option.bind_some]
  by_cases h1 : goodB xs = true
  · by_cases h2 : inB 0 3000 y = true
    · by_cases h3 : inB 1 100 e = true
      · simp only [h1, h2, h3, if_true, Bool.and_self]
        rw [(Good.of h1 h3).spec k (by omega) (inB_iff.1 h2)]
        simp
      · simp only [Bool.not_eq_true] at h3; simp [h1, h2, h3]
    · simp only [Bool.not_eq_true] at h2; simp [h1, h2]
  · simp only [Bool.not_eq_true] at h1; simp [h1]

/-! ### the next one -/
def nextL (xs : List Int) (e : Int) : Nat → Int → Int × Bool
  | 0, _ => (0, false)
  | d + 1, y => if 0 < (jub xs y e).length then (y, true) else nextL xs e d (y + 1)
theorem next_l0 (xs : List Int) (e : Int) (g : Good xs e) : ∀ (d k : Nat) (y : Int), 0 ≤ y → y + d = 3001 → d + 11 < k → impl_NextJubilee.l0 k xs e y = some (nextL xs e d y) := by
  intro d
  induction d with
  | zero =>
    intro k y h0 h1 hk
    obtain ⟨k, rfl⟩ : ∃ m, k = m + 1 := ⟨k - 1, by omega⟩
    simp only [impl_NextJubilee.l0]
    rw [if_neg (by omega)]
    rfl
  | succ d ih =>
    intro k y h0 h1 hk
    obtain ⟨k, rfl⟩ : ∃ m, k = m + 1 := ⟨k - 1, by omega⟩
    simp only [impl_NextJubilee.l0, nextL]
    rw [if_pos (by omega), g.imp k (by omega) ⟨by omega, by omega⟩]
    simp only [Option.bind_some]
    by_cases hp : 0 < (jub xs y e).length
    · rw [if_pos (by omega), if_pos hp]
    · rw [if_neg (by omega), if_neg hp, w64 (by omega) (by omega)]
      exact ih k (y + 1) (by omega) (by omega) (by omega)
theorem specNext_l0 (xs : List Int) (e : Int) (g : Good xs e) : ∀ (d k : Nat) (y : Int), 0 ≤ y → y + d = 3001 → d + 11 < k → spec_NextJubilee.l0 k xs e y = some (nextL xs e d y) := by
  intro d
  induction d with
  | zero =>
    intro k y h0 h1 hk
    obtain ⟨k, rfl⟩ : ∃ m, k = m + 1 := ⟨k - 1, by omega⟩
    simp only [spec_NextJubilee.l0]
    rw [if_neg (by omega)]
    rfl
  | succ d ih =>
    intro k y h0 h1 hk
    obtain ⟨k, rfl⟩ : ∃ m, k = m + 1 := ⟨k - 1, by omega⟩
    simp only [spec_NextJubilee.l0, nextL]
    rw [if_pos (by omega), g.spec k (by omega) ⟨by omega, by omega⟩]
    simp only [Option.bind_some]
    by_cases hp : 0 < (jub xs y e).length
    · rw [if_pos (by omega), if_pos hp]
    · rw [if_neg (by omega), if_neg hp, w64 (by omega) (by omega)]
      exact ih k (y + 1) (by omega) (by omega) (by omega)
def nextR (xs : List Int) (y e : Int) : Int × Bool := if inR xs y e = true then nextL xs e (3000 - y).toNat (y + 1) else (0, false)
theorem Next_v (k : Nat) (xs : List Int) (y e : Int) (hk : 5000 ≤ k) : impl_NextJubilee.f k xs y e = some (nextR xs y e) := by
  obtain ⟨k, rfl⟩ : ∃ m, k = m + 1 := ⟨k - 1, by omega⟩
  unfold impl_NextJubilee.f nextR inR
  rw [AreBirths_v, isYear_v, isEvery_v]
  simp only [Option.bind_some]
  by_cases h1 : goodB xs = true
  · by_cases h2 : inB 0 3000 y = true
    · by_cases h3 : inB 1 100 e = true
      · simp only [h1, h2, h3, if_true, Bool.and_self, Bool.not_true, impl_NextJubilee.j0]
        rw [if_neg (by decide)]
        rw [inB_iff] at h2
        rw [w64 (by omega) (by omega)]
        exact next_l0 xs e (Good.of h1 h3) _ k (y + 1) (by omega) (by omega) (by omega)
      · simp only [Bool.not_eq_true] at h3; simp [h1, h2, h3, impl_NextJubilee.j0]
    · simp only [Bool.not_eq_true] at h2; simp [h1, h2, impl_NextJubilee.j0]
  · simp only [Bool.not_eq_true] at h1; simp [h1, impl_NextJubilee.j0]
theorem specNext_v (k : Nat) (xs : List Int) (y e : Int) (hk : 5000 ≤ k) (hx : xs.length < 500) : spec_NextJubilee.f k xs y e = some (nextR xs y e) := by
  unfold spec_NextJubilee.f nextR inR
  rw [roYear_v k xs y (by omega) (by omega), roEvery_v]
  obtain ⟨k, rfl⟩ : ∃ m, k = m + 1 := ⟨k - 1, by omega⟩
  simp only [Option.bind_some]
  by_cases h1 : goodB xs = true
  · by_cases h2 : inB 0 3000 y = true
    · by_cases h3 : inB 1 100 e = true
      · simp only [h1, h2, h3, if_true, Bool.and_self, Bool.not_true, spec_NextJubilee.j0]
        rw [if_neg (by decide)]
        rw [inB_iff] at h2
        rw [w64 (by omega) (by omega)]
        exact specNext_l0 xs e (Good.of h1 h3) _ k (y + 1) (by omega) (by omega) (by omega)
      · simp only [Bool.not_eq_true] at h3; simp [h1, h2, h3, spec_NextJubilee.j0]
    · simp only [Bool.not_eq_true] at h2; simp [h1, h2, spec_NextJubilee.j0]
  · simp only [Bool.not_eq_true] at h1; simp [h1, spec_NextJubilee.j0]
theorem nextL_says (xs : List Int) (e : Int) : ∀ (d : Nat) (y : Int), (nextL xs e d y).2 = true → y ≤ (nextL xs e d y).1 ∧ (nextL xs e d y).1 < y + d ∧ 0 < (jub xs (nextL xs e d y).1 e).length ∧ ∀ z, y ≤ z → z < (nextL xs e d y).1 → (jub xs z e).length = 0 := by
  intro d
  induction d with
  | zero => intro y h; simp [nextL] at h
  | succ d ih =>
    intro y h
    unfold nextL at h ⊢
    split
    · rename_i hp
      exact ⟨by simp, by simp; omega, hp, fun z h1 h2 => by simp at h2; omega⟩
    · rename_i hp
      rw [if_neg hp] at h
      obtain ⟨h1, h2, h3, h4⟩ := ih (y + 1) h
      refine ⟨by omega, by omega, h3, fun z hz1 hz2 => ?_⟩
      by_cases hz : z = y
      · subst hz; omega
      · exact h4 z (by omega) hz2
end Go.Proofs.Ytiacjmaofdimgaa.PFnJubileesCome
