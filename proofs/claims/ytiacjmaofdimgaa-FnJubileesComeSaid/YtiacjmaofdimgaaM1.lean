/- What chapter 8's jubilees, calendars and spans of the program and of the reference come to: plain functions on lists. -/
import Derived.Test.YtiacjmaofdimgaaPFnJubileesComex8
import Derived.Test.YtiacjmaofdimgaaPFnJubileesComex7
import Derived.Test.YtiacjmaofdimgaaPFnJubileesComex6
import Derived.Test.YtiacjmaofdimgaaPFnJubileesComex5
import Derived.Test.YtiacjmaofdimgaaPFnJubileesComex4
namespace Go.Proofs.Ytiacjmaofdimgaa.PFnJubileesCome
open Go.RowKit Go.Proofs.YtiacjmaofdimgaaW.PrintWords Go.Proofs.YtiacjmaofdimgaaW.PrintLast
set_option linter.unusedVariables false
set_option linter.unusedSimpArgs false

theorem w64 {x : Int} (h : -9223372036854775808 ≤ x) (h2 : x ≤ 9223372036854775807) : wrap64 x = x := by unfold wrap64; omega
theorem w_succ (i : Nat) (h : i < 9223372036854775807) : wrap64 ((i : Int) + 1) = ((i + 1 : Nat) : Int) := by rw [w64 (by omega) (by omega)]; omega
theorem drop_rd (xs : List Int) (i : Nat) (h : i < xs.length) : xs.drop i = rd xs (i : Int) :: xs.drop (i + 1) := by
  rw [List.drop_eq_getElem_cons h]
  simp [rd, List.getD, h]
theorem rd_of_drop {xs : List Int} {i : Nat} {b : Int} {bs : List Int} (h : xs.drop i = b :: bs) : i < xs.length ∧ rd xs (i : Int) = b ∧ xs.drop (i + 1) = bs := by
  have hl : i < xs.length := by
    rcases Nat.lt_or_ge i xs.length with hl | hl
    · exact hl
    · rw [List.drop_eq_nil_of_le hl] at h; simp at h
  rw [drop_rd xs i hl] at h
  injection h with h1 h2
  exact ⟨hl, h1, h2⟩

/-! ### validity -/
theorem between_v (a lo hi : Int) : impl_between.f a lo hi = some (decide (lo ≤ a) && decide (a ≤ hi)) := by
  unfold impl_between.f
  by_cases h : a ≥ lo
  · rw [if_pos h]; simp [show lo ≤ a from h]
  · rw [if_neg h]; simp [show ¬ lo ≤ a from h]
theorem l1In_v (a lo hi : Int) : spec_l1In.f a lo hi = some (decide (lo ≤ a) && decide (a ≤ hi)) := by
  unfold spec_l1In.f
  by_cases h : a ≥ lo
  · rw [if_pos h]; simp [show lo ≤ a from h]
  · rw [if_neg h]; simp [show ¬ lo ≤ a from h]
def inB (lo hi a : Int) : Bool := decide (lo ≤ a) && decide (a ≤ hi)
theorem inB_iff {lo hi a : Int} : inB lo hi a = true ↔ lo ≤ a ∧ a ≤ hi := by simp [inB]
theorem l1All_l0 (xs : List Int) (lo hi : Int) : ∀ (rest : List Int) (i k : Nat), xs.drop i = rest → rest.length < k → xs.length < 1000000 →
    spec_l1All.l0 k lo hi xs (xs.length : Int) (i : Int) = some (rest.all (inB lo hi)) := by
  intro rest
  induction rest with
  | nil =>
    intro i k h hk hx
    obtain ⟨k, rfl⟩ : ∃ m, k = m + 1 := ⟨k - 1, by omega⟩
    have : xs.length ≤ i := by simpa using h
    simp only [spec_l1All.l0]
    rw [if_neg (by omega)]
    rfl
  | cons b bs ih =>
    intro i k h hk hx
    obtain ⟨k, rfl⟩ : ∃ m, k = m + 1 := ⟨k - 1, by omega⟩
    obtain ⟨hl, hr, hd⟩ := rd_of_drop h
    simp only [spec_l1All.l0]
    rw [if_pos (by omega), if_pos (by omega), if_pos (by omega), hr, l1In_v]
    simp only [Option.bind_some]
    have e : (decide (lo ≤ b) && decide (b ≤ hi)) = inB lo hi b := rfl
    rw [e]
    by_cases hb : inB lo hi b = true
    · rw [if_pos hb, w_succ i (by omega), ih (i + 1) k hd (by simp at hk; omega) hx]
      simp [hb]
    · rw [if_neg hb]
      simp [hb]
def goodB (xs : List Int) : Bool := inB 1 10 (xs.length : Int) && xs.all (inB 0 2900)
theorem goodB_iff {xs : List Int} : goodB xs = true ↔ 1 ≤ xs.length ∧ xs.length ≤ 10 ∧ ∀ x ∈ xs, 0 ≤ x ∧ x ≤ 2900 := by
  simp only [goodB, Bool.and_eq_true, inB_iff, List.all_eq_true]
  constructor
  · rintro ⟨⟨a, b⟩, c⟩
    exact ⟨by omega, by omega, c⟩
  · rintro ⟨a, b, c⟩
    exact ⟨⟨by omega, by omega⟩, c⟩
theorem AreBirths_v (xs : List Int) : impl_AreBirths.f xs = some (goodB xs) := by
  unfold impl_AreBirths.f
  rw [between_v]
  simp only [Option.bind_some]
  by_cases h : (decide (1 ≤ (xs.length : Int)) && decide ((xs.length : Int) ≤ 10)) = true
  · rw [if_pos h]
    unfold impl_areBetween.f goodB
    simp only [Option.bind_some]
    have : inB 1 10 (xs.length : Int) = true := h
    rw [this]; rfl
  · rw [if_neg h]
    have : inB 1 10 (xs.length : Int) = false := by simpa [inB] using h
    simp [goodB, this]
theorem roBorn_v (k : Nat) (xs : List Int) (hk : xs.length < k) (hx : xs.length < 1000000) : spec_roBorn.f k xs = some (goodB xs) := by
  unfold spec_roBorn.f
  rw [l1In_v]
  simp only [Option.bind_some]
  by_cases h : (decide (1 ≤ (xs.length : Int)) && decide ((xs.length : Int) ≤ 10)) = true
  · rw [if_pos h]
    unfold spec_l1All.f goodB
    have e := l1All_l0 xs 0 2900 xs 0 k (by simp) hk hx
    simp only [Int.natCast_zero] at e
    rw [e]
    simp only [Option.bind_some]
    have : inB 1 10 (xs.length : Int) = true := h
    rw [this]; rfl
  · rw [if_neg h]
    have : inB 1 10 (xs.length : Int) = false := by simpa [inB] using h
    simp [goodB, this]
theorem isYear_v (y : Int) : impl_isYear.f y = some (inB 0 3000 y) := by unfold impl_isYear.f; rw [between_v]; rfl
theorem isEvery_v (e : Int) : impl_isEvery.f e = some (inB 1 100 e) := by unfold impl_isEvery.f; rw [between_v]; rfl
theorem roEvery_v (e : Int) : spec_roEvery.f e = some (inB 1 100 e) := by unfold spec_roEvery.f; rw [l1In_v]; rfl
def spanB (a b : Int) : Bool := inB 0 3000 a && inB a 3000 b && decide (b - a < 200)
theorem spanB_iff {a b : Int} : spanB a b = true ↔ 0 ≤ a ∧ a ≤ b ∧ b ≤ 3000 ∧ b - a < 200 := by
  simp [spanB, inB_iff]; omega
theorem isSpan_v (a b : Int) : impl_isSpan.f a b = some (spanB a b) := by
  unfold impl_isSpan.f
  rw [isYear_v, between_v]
  simp only [Option.bind_some]
  by_cases h : inB 0 3000 a = true
  · rw [if_pos h]
    by_cases h2 : inB a 3000 b = true
    · rw [if_pos (show (decide (a ≤ b) && decide (b ≤ 3000)) = true from h2)]
      rw [inB_iff] at h h2
      rw [w64 (by omega) (by omega)]
      simp [spanB, inB, h, h2]
    · rw [if_neg (show ¬ (decide (a ≤ b) && decide (b ≤ 3000)) = true from h2)]
      simp [spanB, h2]
  · rw [if_neg h]; simp [spanB, h]
theorem roSpan_v (a b : Int) : spec_roSpan.f a b = some (spanB a b) := by
  unfold spec_roSpan.f
  rw [l1In_v, l1In_v]
  simp only [Option.bind_some]
  by_cases h : inB 0 3000 b = true
  · rw [if_pos (show (decide (0 ≤ b) && decide (b ≤ 3000)) = true from h)]
    by_cases h2 : inB 0 b a = true
    · rw [if_pos (show (decide (0 ≤ a) && decide (a ≤ b)) = true from h2)]
      rw [inB_iff] at h h2
      rw [w64 (by omega) (by omega)]
      have : inB 0 3000 a = true := inB_iff.2 ⟨by omega, by omega⟩
      have h3 : inB a 3000 b = true := inB_iff.2 ⟨by omega, by omega⟩
      simp [spanB, this, h3]
    · rw [if_neg (show ¬ (decide (0 ≤ a) && decide (a ≤ b)) = true from h2)]
      rw [inB_iff] at h2
      congr 1
      symm
      rw [Bool.eq_false_iff, ne_eq, spanB_iff]
      omega
  · rw [if_neg (show ¬ (decide (0 ≤ b) && decide (b ≤ 3000)) = true from h)]
    rw [inB_iff] at h
    congr 1
    symm
    rw [Bool.eq_false_iff, ne_eq, spanB_iff]
    omega
theorem roAll_v (k : Nat) (xs : List Int) (a b e : Int) (hk : xs.length < k) (hx : xs.length < 1000000) : spec_roAll.f k xs a b e = some (goodB xs && spanB a b && inB 1 100 e) := by
  unfold spec_roAll.f
  rw [roBorn_v k xs hk hx, roSpan_v, roEvery_v]
  simp only [Option.bind_some]
  cases goodB xs <;> cases spanB a b <;> simp

/-! ### jubilees -/
def jubOk (y e b : Int) : Bool := decide (0 < y - b) && decide (y - b ≤ 120) && (Int.tmod (y - b) e == 0)
theorem jubOk_iff {y e b : Int} : jubOk y e b = true ↔ 0 < y - b ∧ y - b ≤ 120 ∧ (Int.tmod (y - b) e == 0) = true := by
  simp only [jubOk, Bool.and_eq_true, decide_eq_true_eq, and_assoc]
def jubL (y e : Int) : List Int → Int → List Int
  | [], _ => []
  | b :: bs, i => if jubOk y e b = true then i :: jubL y e bs (i + 1) else jubL y e bs (i + 1)
def jub (xs : List Int) (y e : Int) : List Int := jubL y e xs 0
theorem jubL_length (y e : Int) : ∀ (xs : List Int) (i : Int), (jubL y e xs i).length ≤ xs.length
  | [], _ => by simp [jubL]
  | b :: bs, i => by
    unfold jubL
    have := jubL_length y e bs (i + 1)
    split <;> simp <;> omega
theorem ageIn_v (b y : Int) (hb : 0 ≤ b ∧ b ≤ 2900) (hy : 0 ≤ y ∧ y ≤ 3000) : impl_ageIn.f b y = some (y - b, inB 0 120 (y - b)) := by
  unfold impl_ageIn.f impl_isAge.f
  rw [w64 (by omega) (by omega), between_v]
  rfl
theorem isRound_v (a e : Int) (he : 1 ≤ e) : impl_isRound.f a e = some (decide (0 < a) && (Int.tmod a e == 0)) := by
  unfold impl_isRound.f
  by_cases h : a > 0
  · rw [if_pos h, if_neg (by omega)]; simp [show 0 < a from h]
  · rw [if_neg h]; simp [show ¬ 0 < a from h]
theorem roRound_v (a e : Int) (he : 1 ≤ e) : spec_roRound.f a e = some (decide (0 < a) && (Int.tmod a e == 0)) := by
  unfold spec_roRound.f
  by_cases h : a > 0
  · rw [if_pos h, if_neg (by omega)]; simp [show 0 < a from h]
  · rw [if_neg h]; simp [show ¬ 0 < a from h]
theorem roAge_v (b y : Int) (hb : 0 ≤ b ∧ b ≤ 2900) (hy : 0 ≤ y ∧ y ≤ 3000) : spec_roAge.f b y = some (if inB 0 120 (y - b) = true then y - b else -1) := by
  unfold spec_roAge.f
  rw [w64 (by omega) (by omega), l1In_v]
  simp only [Option.bind_some]
  show (if inB 0 120 (y - b) = true then some (y - b) else some (-1)) = _
  split <;> rfl
theorem jubilees_l0 (xs : List Int) (y e : Int) (hxs : ∀ x ∈ xs, 0 ≤ x ∧ x ≤ 2900) (hy : 0 ≤ y ∧ y ≤ 3000) (he : 1 ≤ e) (hn : xs.length < 1000000) :
    ∀ (rest : List Int) (i k : Nat) (out : List Int), xs.drop i = rest → rest.length < k → out.length ≤ i →
    impl_jubilees.l0 k y e out xs (xs.length : Int) (i : Int) = some (out ++ jubL y e rest i) := by
  intro rest
  induction rest with
  | nil =>
    intro i k out h hk ho
    obtain ⟨k, rfl⟩ : ∃ m, k = m + 1 := ⟨k - 1, by omega⟩
    have : xs.length ≤ i := by simpa using h
    simp only [impl_jubilees.l0]
    rw [if_neg (by omega)]
    simp [jubL]
  | cons b bs ih =>
    intro i k out h hk ho
    obtain ⟨k, rfl⟩ : ∃ m, k = m + 1 := ⟨k - 1, by omega⟩
    obtain ⟨hl, hr, hd⟩ := rd_of_drop h
    have hb : 0 ≤ b ∧ b ≤ 2900 := hxs b (by rw [← List.take_append_drop i xs, h]; simp)
    simp at hk
    simp only [impl_jubilees.l0]
    rw [if_pos (by omega), if_pos (by omega), if_pos (by omega), hr, ageIn_v b y hb hy]
    simp only [Option.bind_some]
    rw [isRound_v _ _ he]
    simp only [Option.bind_some]
    rw [w_succ i (by omega)]
    unfold jubL
    by_cases h1 : inB 0 120 (y - b) = true
    · rw [if_pos h1]
      by_cases h2 : (decide (0 < y - b) && ((y - b).tmod e == 0)) = true
      · rw [if_pos h2, if_pos (by omega), ih (i + 1) k _ hd (by omega) (by simp; omega)]
        have : jubOk y e b = true := by
          rw [inB_iff] at h1
          simp only [Bool.and_eq_true, decide_eq_true_eq] at h2
          exact jubOk_iff.2 ⟨h2.1, h1.2, h2.2⟩
        rw [if_pos this]
        simp
      · rw [if_neg h2, ih (i + 1) k _ hd (by omega) (by omega)]
        have : ¬ jubOk y e b = true := by
          intro h3
          apply h2
          rw [jubOk_iff] at h3
          simp only [Bool.and_eq_true, decide_eq_true_eq]
          exact ⟨h3.1, h3.2.2⟩
        rw [if_neg this]
        simp
    · rw [if_neg h1, ih (i + 1) k _ hd (by omega) (by omega)]
      have : ¬ jubOk y e b = true := by
        intro h3
        apply h1
        rw [jubOk_iff] at h3
        rw [inB_iff]
        omega
      rw [if_neg this]
      simp
theorem roIn_l0 (xs : List Int) (y e : Int) (hxs : ∀ x ∈ xs, 0 ≤ x ∧ x ≤ 2900) (hy : 0 ≤ y ∧ y ≤ 3000) (he : 1 ≤ e) (hn : xs.length < 1000000) :
    ∀ (rest : List Int) (i k : Nat) (out : List Int), xs.drop i = rest → rest.length < k → out.length ≤ i →
    spec_roIn.l0 k y e out xs (xs.length : Int) (i : Int) = some (out ++ jubL y e rest i) := by
  intro rest
  induction rest with
  | nil =>
    intro i k out h hk ho
    obtain ⟨k, rfl⟩ : ∃ m, k = m + 1 := ⟨k - 1, by omega⟩
    have : xs.length ≤ i := by simpa using h
    simp only [spec_roIn.l0]
    rw [if_neg (by omega)]
    simp [jubL]
  | cons b bs ih =>
    intro i k out h hk ho
    obtain ⟨k, rfl⟩ : ∃ m, k = m + 1 := ⟨k - 1, by omega⟩
    obtain ⟨hl, hr, hd⟩ := rd_of_drop h
    have hb : 0 ≤ b ∧ b ≤ 2900 := hxs b (by rw [← List.take_append_drop i xs, h]; simp)
    simp at hk
    simp only [spec_roIn.l0]
    rw [if_pos (by omega), if_pos (by omega), if_pos (by omega), hr, roAge_v b y hb hy]
    simp only [Option.bind_some]
    rw [roRound_v _ _ he]
    simp only [Option.bind_some]
    rw [w_succ i (by omega)]
    unfold jubL
    by_cases h3 : jubOk y e b = true
    · have h4 := h3
      rw [jubOk_iff] at h4
      have h1 : inB 0 120 (y - b) = true := inB_iff.2 ⟨by omega, by omega⟩
      rw [if_pos h1, if_pos (by simp only [Bool.and_eq_true, decide_eq_true_eq]; exact ⟨h4.1, h4.2.2⟩), if_pos (by omega), ih (i + 1) k _ hd (by omega) (by simp; omega), if_pos h3]
      simp
    · have h5 : ¬ (decide (0 < (if inB 0 120 (y - b) = true then y - b else -1)) && ((if inB 0 120 (y - b) = true then y - b else -1).tmod e == 0)) = true := by
        by_cases h1 : inB 0 120 (y - b) = true
        · rw [if_pos h1]
          rw [inB_iff] at h1
          intro h6
          apply h3
          simp only [Bool.and_eq_true, decide_eq_true_eq] at h6
          exact jubOk_iff.2 ⟨h6.1, h1.2, h6.2⟩
        · rw [if_neg h1]
          simp
      rw [if_neg h5, ih (i + 1) k _ hd (by omega) (by omega), if_neg h3]
      simp
theorem jubilees_v (k : Nat) (xs : List Int) (y e : Int) (hxs : ∀ x ∈ xs, 0 ≤ x ∧ x ≤ 2900) (hy : 0 ≤ y ∧ y ≤ 3000) (he : 1 ≤ e) (hn : xs.length < 1000000) (hk : xs.length < k) : impl_jubilees.f k xs y e = some (jub xs y e) := by
  unfold impl_jubilees.f
  have := jubilees_l0 xs y e hxs hy he hn xs 0 k [] (by simp) hk (by simp)
  simpa [jub] using this
theorem roIn_v (k : Nat) (xs : List Int) (y e : Int) (hxs : ∀ x ∈ xs, 0 ≤ x ∧ x ≤ 2900) (hy : 0 ≤ y ∧ y ≤ 3000) (he : 1 ≤ e) (hn : xs.length < 1000000) (hk : xs.length < k) : spec_roIn.f k xs y e = some (jub xs y e) := by
  unfold spec_roIn.f
  have := roIn_l0 xs y e hxs hy he hn xs 0 k [] (by simp) hk (by simp)
  simpa [jub] using this
end Go.Proofs.Ytiacjmaofdimgaa.PFnJubileesCome
