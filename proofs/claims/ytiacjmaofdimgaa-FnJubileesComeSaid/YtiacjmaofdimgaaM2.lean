/- Calendars, counts, the most and the longest quiet part: what program and reference come to, in plain functions. -/
import Derived.Test.YtiacjmaofdimgaaM1
namespace Go.Proofs.Ytiacjmaofdimgaa.PFnJubileesCome
open Go.RowKit Go.Proofs.YtiacjmaofdimgaaW.PrintWords Go.Proofs.YtiacjmaofdimgaaW.PrintLast
set_option linter.unusedVariables false
set_option linter.unusedSimpArgs false

theorem jub_length (xs : List Int) (y e : Int) : (jub xs y e).length ≤ xs.length := jubL_length y e xs 0
theorem rd2_of_drop {xs : List (List Int)} {i : Nat} {b : List Int} {bs : List (List Int)} (h : xs.drop i = b :: bs) : i < xs.length ∧ rd_L2 xs (i : Int) = b ∧ xs.drop (i + 1) = bs := by
  have hl : i < xs.length := by
    rcases Nat.lt_or_ge i xs.length with hl | hl
    · exact hl
    · rw [List.drop_eq_nil_of_le hl] at h; simp at h
  rw [List.drop_eq_getElem_cons hl] at h
  injection h with h1 h2
  exact ⟨hl, by simp [rd_L2, List.getD, hl, h1], h2⟩

/-- What births and an interval that are valid say. -/
structure Good (xs : List Int) (e : Int) : Prop where
  all : ∀ x ∈ xs, 0 ≤ x ∧ x ≤ 2900
  ev : 1 ≤ e
  len : xs.length ≤ 10
theorem Good.of {xs : List Int} {e : Int} (h : goodB xs = true) (he : inB 1 100 e = true) : Good xs e :=
  ⟨(goodB_iff.1 h).2.2, (inB_iff.1 he).1, (goodB_iff.1 h).2.1⟩
theorem Good.imp {xs : List Int} {e y : Int} (g : Good xs e) (k : Nat) (hk : 11 ≤ k) (hy : 0 ≤ y ∧ y ≤ 3000) : impl_jubilees.f k xs y e = some (jub xs y e) :=
  jubilees_v k xs y e g.all hy g.ev (by have := g.len; omega) (by have := g.len; omega)
theorem Good.spec {xs : List Int} {e y : Int} (g : Good xs e) (k : Nat) (hk : 11 ≤ k) (hy : 0 ≤ y ∧ y ≤ 3000) : spec_roIn.f k xs y e = some (jub xs y e) :=
  roIn_v k xs y e g.all hy g.ev (by have := g.len; omega) (by have := g.len; omega)
theorem Good.jlen {xs : List Int} {e : Int} (g : Good xs e) (y : Int) : (jub xs y e).length ≤ 10 := Nat.le_trans (jub_length xs y e) g.len

def calL (xs : List Int) (e : Int) : Nat → Int → List (List Int)
  | 0, _ => []
  | d + 1, y => if 0 < (jub xs y e).length then (y :: jub xs y e) :: calL xs e d (y + 1) else calL xs e d (y + 1)
theorem calendar_l0 (xs : List Int) (e tt : Int) (g : Good xs e) : ∀ (d k : Nat) (y : Int) (out : List (List Int)), 0 ≤ y → y + d = tt + 1 → tt ≤ 3000 → d + 11 < k → out.length + d ≤ 100000 →
    impl_calendar.l0 k xs tt e out y = some (out ++ calL xs e d y, true) := by
  intro d
  induction d with
  | zero =>
    intro k y out h0 h1 h2 hk ho
    obtain ⟨k, rfl⟩ : ∃ m, k = m + 1 := ⟨k - 1, by omega⟩
    simp only [impl_calendar.l0]
    rw [if_neg (by omega)]
    simp [calL]
  | succ d ih =>
    intro k y out h0 h1 h2 hk ho
    obtain ⟨k, rfl⟩ : ∃ m, k = m + 1 := ⟨k - 1, by omega⟩
    have hj := g.jlen y
    simp only [impl_calendar.l0]
    rw [if_pos (by omega), g.imp k (by omega) ⟨by omega, by omega⟩]
    simp only [Option.bind_some]
    rw [w64 (x := y + 1) (by omega) (by omega)]
    unfold calL
    by_cases hp : 0 < (jub xs y e).length
    · rw [if_pos (by omega), if_pos hp, if_pos (by simp; omega), if_pos (by omega), ih k (y + 1) _ (by omega) (by omega) h2 (by omega) (by simp; omega)]
      simp
    · rw [if_neg (by omega), if_neg hp, ih k (y + 1) _ (by omega) (by omega) h2 (by omega) (by omega)]
theorem specCalendar_l0 (xs : List Int) (e tt : Int) (g : Good xs e) : ∀ (d k : Nat) (y : Int) (out : List (List Int)), 0 ≤ y → y + d = tt + 1 → tt ≤ 3000 → d + 11 < k → out.length + d ≤ 100000 →
    spec_CalendarOf.l0 k xs tt e out y = some (out ++ calL xs e d y, true) := by
  intro d
  induction d with
  | zero =>
    intro k y out h0 h1 h2 hk ho
    obtain ⟨k, rfl⟩ : ∃ m, k = m + 1 := ⟨k - 1, by omega⟩
    simp only [spec_CalendarOf.l0]
    rw [if_neg (by omega)]
    simp [calL]
  | succ d ih =>
    intro k y out h0 h1 h2 hk ho
    obtain ⟨k, rfl⟩ : ∃ m, k = m + 1 := ⟨k - 1, by omega⟩
    have hj := g.jlen y
    simp only [spec_CalendarOf.l0]
    rw [if_pos (by omega), g.spec k (by omega) ⟨by omega, by omega⟩]
    simp only [Option.bind_some]
    rw [w64 (x := y + 1) (by omega) (by omega)]
    unfold calL
    by_cases hp : 0 < (jub xs y e).length
    · rw [if_pos (by omega), if_pos hp, if_pos (by simp; omega), if_pos (by omega), ih k (y + 1) _ (by omega) (by omega) h2 (by omega) (by simp; omega)]
      simp
    · rw [if_neg (by omega), if_neg hp, ih k (y + 1) _ (by omega) (by omega) h2 (by omega) (by omega)]
/-- Are a calendar's arguments valid? -/
def allB (xs : List Int) (a b e : Int) : Bool := goodB xs && spanB a b && inB 1 100 e
def calOf (xs : List Int) (a b e : Int) : List (List Int) := calL xs e (b - a + 1).toNat a
theorem calendar_v (k : Nat) (xs : List Int) (a b e : Int) (hk : 1000 ≤ k) : impl_calendar.f k xs a b e = some (if allB xs a b e = true then (calOf xs a b e, true) else ([], false)) := by
  obtain ⟨k, rfl⟩ : ∃ m, k = m + 1 := ⟨k - 1, by omega⟩
  unfold impl_calendar.f allB
  rw [AreBirths_v, isSpan_v, isEvery_v]
  simp only [Option.bind_some]
  by_cases h1 : goodB xs = true
  · by_cases h2 : spanB a b = true
    · by_cases h3 : inB 1 100 e = true
      · simp only [h1, h2, h3, if_true, impl_calendar.j0, Bool.not_true, Bool.and_self]
        rw [if_neg (by decide)]
        have g := Good.of h1 h3
        rw [spanB_iff] at h2
        have := calendar_l0 xs e b g (b - a + 1).toNat k a [] (by omega) (by omega) (by omega) (by omega) (by simp; omega)
        rw [this]; simp [calOf]
      · simp only [Bool.not_eq_true] at h3
        simp [h1, h2, h3, impl_calendar.j0]
    · simp only [Bool.not_eq_true] at h2
      simp [h1, h2, impl_calendar.j0]
  · simp only [Bool.not_eq_true] at h1
    simp [h1, impl_calendar.j0]
theorem CalendarOf_v (k : Nat) (xs : List Int) (a b e : Int) (hk : 1000 ≤ k) : impl_CalendarOf.f k xs a b e = some (if allB xs a b e = true then (calOf xs a b e, true) else ([], false)) := by
  unfold impl_CalendarOf.f
  rw [calendar_v k xs a b e hk]
  simp only [Option.bind_some]
theorem specCalendar_v (k : Nat) (xs : List Int) (a b e : Int) (hk : 1000 ≤ k) (hx : xs.length < 500) : spec_CalendarOf.f k xs a b e = some (if allB xs a b e = true then (calOf xs a b e, true) else ([], false)) := by
  unfold spec_CalendarOf.f
  rw [roAll_v k xs a b e (by omega) (by omega)]
  simp only [Option.bind_some]
  show (if allB xs a b e = true then _ else _) = _
  by_cases h : allB xs a b e = true
  · rw [if_pos h, if_pos h]
    simp only [allB, Bool.and_eq_true] at h
    obtain ⟨⟨h1, h2⟩, h3⟩ := h
    have g := Good.of h1 h3
    rw [spanB_iff] at h2
    have := specCalendar_l0 xs e b g (b - a + 1).toNat k a [] (by omega) (by omega) (by omega) (by omega) (by simp; omega)
    rw [this]; simp [calOf]
  · rw [if_neg h, if_neg h]

/-! ### how many -/
def cnt (xs : List Int) (e : Int) : Nat → Int → Int
  | 0, _ => 0
  | d + 1, y => ((jub xs y e).length : Int) + cnt xs e d (y + 1)
theorem cnt_bound (xs : List Int) (e : Int) (g : Good xs e) : ∀ (d : Nat) (y : Int), 0 ≤ cnt xs e d y ∧ cnt xs e d y ≤ 10 * d := by
  intro d
  induction d with
  | zero => intro y; simp [cnt]
  | succ d ih => intro y; have := ih (y + 1); have := g.jlen y; simp only [cnt]; omega
def sumR : List (List Int) → Int
  | [] => 0
  | r :: rs => ((r.length : Int) - 1) + sumR rs
theorem sumR_cal (xs : List Int) (e : Int) : ∀ (d : Nat) (y : Int), sumR (calL xs e d y) = cnt xs e d y := by
  intro d
  induction d with
  | zero => intro y; rfl
  | succ d ih =>
    intro y
    unfold calL cnt
    split
    · simp only [sumR, ih, List.length_cons]; omega
    · rw [ih]; omega
theorem calL_length (xs : List Int) (e : Int) : ∀ (d : Nat) (y : Int), (calL xs e d y).length ≤ d := by
  intro d
  induction d with
  | zero => intro y; simp [calL]
  | succ d ih => intro y; have := ih (y + 1); unfold calL; split <;> simp <;> omega
theorem calL_rows (xs : List Int) (e : Int) (g : Good xs e) : ∀ (d : Nat) (y : Int), ∀ r ∈ calL xs e d y, 1 ≤ r.length ∧ r.length ≤ 11 := by
  intro d
  induction d with
  | zero => intro y r hr; simp [calL] at hr
  | succ d ih =>
    intro y r hr
    unfold calL at hr
    have := g.jlen y
    split at hr
    · rcases List.mem_cons.1 hr with rfl | hr
      · simp; omega
      · exact ih _ r hr
    · exact ih _ r hr
theorem count_l0 (rows : List (List Int)) (ok : Bool) (hn : rows.length ≤ 1000) (hr : ∀ r ∈ rows, 1 ≤ r.length ∧ r.length ≤ 11) : ∀ (rest : List (List Int)) (i k : Nat) (s : Int), rows.drop i = rest → rest.length < k → 0 ≤ s → s ≤ 10 * i →
    impl_CountJubilees.l0 k ok s rows (rows.length : Int) (i : Int) = some (s + sumR rest, ok) := by
  intro rest
  induction rest with
  | nil =>
    intro i k s h hk h0 h1
    obtain ⟨k, rfl⟩ : ∃ m, k = m + 1 := ⟨k - 1, by omega⟩
    have : rows.length ≤ i := by simpa using h
    simp only [impl_CountJubilees.l0]
    rw [if_neg (by omega)]
    simp [sumR]
  | cons b bs ih =>
    intro i k s h hk h0 h1
    obtain ⟨k, rfl⟩ : ∃ m, k = m + 1 := ⟨k - 1, by omega⟩
    obtain ⟨hl, hrd, hd⟩ := rd2_of_drop h
    have hb := hr b (by rw [← List.take_append_drop i rows, h]; simp)
    simp at hk
    simp only [impl_CountJubilees.l0]
    rw [if_pos (by omega), if_pos (by omega), if_pos (by omega), hrd, w_succ i (by omega), w64 (x := (b.length : Int) - 1) (by omega) (by omega), w64 (by omega) (by omega), ih (i + 1) k _ hd (by omega) (by omega) (by omega)]
    simp only [sumR]
    congr 2
    omega
def cntOf (xs : List Int) (a b e : Int) : Int := cnt xs e (b - a + 1).toNat a
theorem spanB_len {a b : Int} (h : spanB a b = true) : (b - a + 1).toNat ≤ 200 := by rw [spanB_iff] at h; omega
theorem calOf_length {xs : List Int} {a b e : Int} (h : spanB a b = true) : (calOf xs a b e).length ≤ 200 := Nat.le_trans (calL_length xs e _ a) (spanB_len h)
theorem allB_iff {xs : List Int} {a b e : Int} : allB xs a b e = true ↔ goodB xs = true ∧ spanB a b = true ∧ inB 1 100 e = true := by
  simp only [allB, Bool.and_eq_true, and_assoc]
theorem Count_v (k : Nat) (xs : List Int) (a b e : Int) (hk : 1000 ≤ k) : impl_CountJubilees.f k xs a b e = some (if allB xs a b e = true then (cntOf xs a b e, true) else (0, false)) := by
  unfold impl_CountJubilees.f
  rw [calendar_v k xs a b e hk]
  simp only [Option.bind_some]
  by_cases h : allB xs a b e = true
  · rw [if_pos h, if_pos h]
    obtain ⟨h1, h2, h3⟩ := allB_iff.1 h
    have g := Good.of h1 h3
    have hl := calOf_length (xs := xs) (e := e) h2
    have := count_l0 (calOf xs a b e) true (by omega) (calL_rows xs e g _ a) _ 0 k 0 (List.drop_zero) (by omega) (by omega) (by omega)
    rw [show ((0 : Nat) : Int) = 0 from rfl] at this
    rw [this]
    simp [cntOf, calOf, sumR_cal]
  · rw [if_neg h, if_neg h]
    obtain ⟨k, rfl⟩ : ∃ m, k = m + 1 := ⟨k - 1, by omega⟩
    simp [impl_CountJubilees.l0]
theorem specCount_l0 (xs : List Int) (e tt : Int) (g : Good xs e) : ∀ (d k : Nat) (y s : Int), 0 ≤ y → y + d = tt + 1 → tt ≤ 3000 → d + 11 < k → 0 ≤ s → s + 10 * d ≤ 100000 →
    spec_CountJubilees.l0 k xs tt e s y = some (s + cnt xs e d y, true) := by
  intro d
  induction d with
  | zero =>
    intro k y s h0 h1 h2 hk ho _
    obtain ⟨k, rfl⟩ : ∃ m, k = m + 1 := ⟨k - 1, by omega⟩
    simp only [spec_CountJubilees.l0]
    rw [if_neg (by omega)]
    simp [cnt]
  | succ d ih =>
    intro k y s h0 h1 h2 hk ho hs
    obtain ⟨k, rfl⟩ : ∃ m, k = m + 1 := ⟨k - 1, by omega⟩
    have hj := g.jlen y
    simp only [spec_CountJubilees.l0]
    rw [if_pos (by omega), g.spec k (by omega) ⟨by omega, by omega⟩]
    simp only [Option.bind_some]
    rw [w64 (x := y + 1) (by omega) (by omega), w64 (by omega) (by omega), ih k (y + 1) _ (by omega) (by omega) h2 (by omega) (by omega) (by omega)]
    simp only [cnt]
    congr 2
    omega
theorem specCount_v (k : Nat) (xs : List Int) (a b e : Int) (hk : 1000 ≤ k) (hx : xs.length < 500) : spec_CountJubilees.f k xs a b e = some (if allB xs a b e = true then (cntOf xs a b e, true) else (0, false)) := by
  unfold spec_CountJubilees.f
  rw [roAll_v k xs a b e (by omega) (by omega)]
  simp only [Option.bind_some]
  show (if allB xs a b e = true then _ else _) = _
  by_cases h : allB xs a b e = true
  · rw [if_pos h, if_pos h]
    obtain ⟨h1, h2, h3⟩ := allB_iff.1 h
    have g := Good.of h1 h3
    have := spanB_len h2
    rw [spanB_iff] at h2
    rw [specCount_l0 xs e b g (b - a + 1).toNat k a 0 (by omega) (by omega) (by omega) (by omega) (by omega) (by omega)]
    simp [cntOf]
  · rw [if_neg h, if_neg h]
end Go.Proofs.Ytiacjmaofdimgaa.PFnJubileesCome
