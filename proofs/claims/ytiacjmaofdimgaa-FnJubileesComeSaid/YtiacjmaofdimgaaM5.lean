/- The oldest, those together, anniversaries; and that the drawn arguments exist. -/
import Derived.Test.YtiacjmaofdimgaaM4
import Derived.Laws.BitsLemmas
namespace Go.Proofs.Ytiacjmaofdimgaa.PFnJubileesCome
open Go.RowKit Go.Proofs.YtiacjmaofdimgaaW.PrintWords Go.Proofs.YtiacjmaofdimgaaW.PrintLast
set_option linter.unusedVariables false
set_option linter.unusedSimpArgs false

/-! ### the oldest -/
def oldB (xs : List Int) : List Int → Int → Int
  | [], b => b
  | i :: r, b => oldB xs r (if rd xs i < rd xs b then i else b)
theorem rd_range {xs : List Int} (h : ∀ x ∈ xs, 0 ≤ x ∧ x ≤ 2900) (i : Int) (h0 : 0 ≤ i) (h1 : i < xs.length) : 0 ≤ rd xs i ∧ rd xs i ≤ 2900 := by
  obtain ⟨n, rfl⟩ := Int.eq_ofNat_of_zero_le h0
  have hn : n < xs.length := by omega
  have : rd xs (n : Int) = xs[n] := by simp [rd, List.getD, hn]
  rw [this]; exact h _ (List.getElem_mem hn)
theorem old_l0 (xs : List Int) (y : Int) (list : List Int) (hxs : ∀ x ∈ xs, 0 ≤ x ∧ x ≤ 2900) (hy : 0 ≤ y ∧ y ≤ 3000) (hl : list.length ≤ 1000) (hr : ∀ j ∈ list, 0 ≤ j ∧ j < xs.length) : ∀ (rest : List Int) (i k : Nat) (b : Int), list.drop i = rest → rest.length < k → 0 ≤ b → b < xs.length →
    impl_OldestRound.l0 k xs y b list (list.length : Int) (i : Int) = some (oldB xs rest b, y - rd xs (oldB xs rest b), true) := by
  intro rest
  induction rest with
  | nil =>
    intro i k b h hk h0 h1
    obtain ⟨k, rfl⟩ : ∃ m, k = m + 1 := ⟨k - 1, by omega⟩
    have : list.length ≤ i := by simpa using h
    have := rd_range hxs b h0 h1
    simp only [impl_OldestRound.l0]
    rw [if_neg (by omega), if_pos h0, if_pos h1, w64 (by omega) (by omega)]
    rfl
  | cons c cs ih =>
    intro i k b h hk h0 h1
    obtain ⟨k, rfl⟩ : ∃ m, k = m + 1 := ⟨k - 1, by omega⟩
    obtain ⟨hl2, hrd, hd⟩ := rd_of_drop h
    have hc := hr c (by rw [← List.take_append_drop i list, h]; simp)
    simp at hk
    simp only [impl_OldestRound.l0]
    rw [if_pos (by omega), if_pos (by omega), if_pos (by omega), hrd, if_pos hc.1, if_pos hc.2, if_pos h0, if_pos h1, w_succ i (by omega)]
    unfold oldB
    by_cases e : rd xs c < rd xs b
    · rw [if_pos e, if_pos e]; exact ih (i + 1) k c hd (by omega) hc.1 hc.2
    · rw [if_neg e, if_neg e]; exact ih (i + 1) k b hd (by omega) h0 h1
theorem specOld_l0 (xs : List Int) (y e : Int) (list : List Int) (hxs : ∀ x ∈ xs, 0 ≤ x ∧ x ≤ 2900) (hy : 0 ≤ y ∧ y ≤ 3000) (hl : list.length ≤ 1000) (hr : ∀ j ∈ list, 0 ≤ j ∧ j < xs.length) : ∀ (rest : List Int) (i k : Nat) (b : Int), list.drop i = rest → rest.length < k → 0 ≤ b → b < xs.length → 0 < y - rd xs b →
    spec_OldestRound.l0 k xs y b (y - rd xs b) list (list.length : Int) (i : Int) = some (oldB xs rest b, y - rd xs (oldB xs rest b), true) := by
  intro rest
  induction rest with
  | nil =>
    intro i k b h hk h0 h1 hp
    obtain ⟨k, rfl⟩ : ∃ m, k = m + 1 := ⟨k - 1, by omega⟩
    have : list.length ≤ i := by simpa using h
    simp only [spec_OldestRound.l0]
    rw [if_neg (by omega), if_neg (by omega)]
    rfl
  | cons c cs ih =>
    intro i k b h hk h0 h1 hp
    obtain ⟨k, rfl⟩ : ∃ m, k = m + 1 := ⟨k - 1, by omega⟩
    obtain ⟨hl2, hrd, hd⟩ := rd_of_drop h
    have hc := hr c (by rw [← List.take_append_drop i list, h]; simp)
    have hcr := rd_range hxs c hc.1 hc.2
    simp at hk
    simp only [spec_OldestRound.l0]
    rw [if_pos (by omega), if_pos (by omega), if_pos (by omega), hrd, if_pos hc.1, if_pos hc.2, w_succ i (by omega), w64 (x := y - rd xs c) (by omega) (by omega)]
    unfold oldB
    by_cases e : rd xs c < rd xs b
    · rw [if_pos (by omega), if_pos e]; exact ih (i + 1) k c hd (by omega) hc.1 hc.2 (by omega)
    · rw [if_neg (by omega), if_neg e]; exact ih (i + 1) k b hd (by omega) h0 h1 hp
def oldOf (xs : List Int) (y e : Int) : Int := oldB xs (jub xs y e) (rd (jub xs y e) 0)
def oldR (xs : List Int) (y e : Int) : Int × Int × Bool := if inR xs y e = true then (if 0 < (jub xs y e).length then (oldOf xs y e, y - rd xs (oldOf xs y e), true) else (0, 0, false)) else (0, 0, false)
theorem jub_pos {xs : List Int} {y e : Int} {j : Int} (hj : j ∈ jub xs y e) : 0 < y - rd xs j ∧ y - rd xs j ≤ 120 ∧ Int.tmod (y - rd xs j) e = 0 := by
  obtain ⟨h0, h1⟩ := jub_range xs y e j hj
  obtain ⟨n, rfl⟩ := Int.eq_ofNat_of_zero_le h0
  have := ((jub_mem xs y e n).1 hj).2
  rw [jubOk_iff] at this
  obtain ⟨a, b, c⟩ := this
  refine ⟨by simpa [rd] using a, by simpa [rd] using b, by simpa [rd] using c⟩
theorem Oldest_v (k : Nat) (xs : List Int) (y e : Int) (hk : 50 ≤ k) : impl_OldestRound.f k xs y e = some (oldR xs y e) := by
  unfold impl_OldestRound.f oldR
  rw [JubileesIn_v k xs y e (by omega)]
  obtain ⟨k, rfl⟩ : ∃ m, k = m + 1 := ⟨k - 1, by omega⟩
  simp only [Option.bind_some]
  by_cases h : inR xs y e = true
  · obtain ⟨h1, h2, h3⟩ := inR_iff.1 h
    have g := Good.of h1 h3
    simp only [h, if_true, impl_OldestRound.j0]
    have hj := g.jlen y
    cases hq : jub xs y e with
    | nil => simp
    | cons c cs =>
      rw [← hq]
      have hp : 0 < (jub xs y e).length := by rw [hq]; simp
      rw [if_neg (by simp only [beq_iff_eq]; omega), if_pos (by omega), if_pos hp]
      rw [inB_iff] at h2
      have hc : rd (jub xs y e) 0 ∈ jub xs y e := by rw [hq]; simp [rd]
      obtain ⟨a, b⟩ := jub_range xs y e _ hc
      have := old_l0 xs y (jub xs y e) g.all h2 (by omega) (jub_range xs y e) (jub xs y e) 0 k (rd (jub xs y e) 0) (by simp) (by omega) a b
      exact this
  · simp only [Bool.not_eq_true] at h
    simp [h, impl_OldestRound.j0]
theorem specOldest_v (k : Nat) (xs : List Int) (y e : Int) (hk : 600 ≤ k) (hx : xs.length < 500) : spec_OldestRound.f k xs y e = some (oldR xs y e) := by
  unfold spec_OldestRound.f oldR inR
  rw [roYear_v k xs y (by omega) (by omega), roEvery_v]
  obtain ⟨k, rfl⟩ : ∃ m, k = m + 1 := ⟨k - 1, by omega⟩
  simp only [Option.bind_some]
  by_cases h1 : goodB xs = true
  · by_cases h2 : inB 0 3000 y = true
    · by_cases h3 : inB 1 100 e = true
      · have g := Good.of h1 h3
        simp only [h1, h2, h3, if_true, Bool.and_self, Bool.not_true, spec_OldestRound.j0]
        rw [if_neg (by decide)]
        rw [inB_iff] at h2
        rw [g.spec k (by omega) h2]
        simp only [Option.bind_some]
        have hj := g.jlen y
        cases hq : jub xs y e with
        | nil =>
          obtain ⟨k, rfl⟩ : ∃ m, k = m + 1 := ⟨k - 1, by omega⟩
          simp [spec_OldestRound.l0]
        | cons c cs =>
          obtain ⟨k, rfl⟩ : ∃ m, k = m + 1 := ⟨k - 1, by omega⟩
          have hm : ∀ j ∈ jub xs y e, _ := jub_range xs y e
          have hjl : (c :: cs).length ≤ 10 := by rw [← hq]; exact hj
          have hc := hm c (by rw [hq]; simp)
          have hcp := jub_pos (xs := xs) (y := y) (e := e) (j := c) (by rw [hq]; simp)
          have hcr := rd_range g.all c hc.1 hc.2
          rw [hq] at hm
          simp only [spec_OldestRound.l0]
          rw [if_pos (by simp <;> omega), if_pos (by omega), if_pos (by simp <;> omega), show rd (c :: cs) 0 = c from rfl, if_pos hc.1, if_pos hc.2, w64 (x := y - rd xs c) (by omega) (by omega), if_pos (by omega), w64 (by omega) (by omega)]
          have := specOld_l0 xs y e (c :: cs) g.all h2 (by omega) hm cs 1 k c (by simp) (by simp at hjl; omega) hc.1 hc.2 (by omega)
          rw [show (0 : Int) + 1 = ((1 : Nat) : Int) from rfl, this]
          simp only [List.length_cons, if_pos (Nat.succ_pos _)]
          have e2 : oldOf xs y e = oldB xs cs c := by
            unfold oldOf
            rw [hq, show rd (c :: cs) 0 = c from rfl]
            simp [oldB]
          rw [e2]
      · simp only [Bool.not_eq_true] at h3; simp [h1, h2, h3, spec_OldestRound.j0]
    · simp only [Bool.not_eq_true] at h2; simp [h1, h2, spec_OldestRound.j0]
  · simp only [Bool.not_eq_true] at h1; simp [h1, spec_OldestRound.j0]
theorem oldB_says (xs : List Int) : ∀ (r : List Int) (b : Int), (∀ i ∈ r, b < i) → Rise r → (oldB xs r b = b ∨ oldB xs r b ∈ r) ∧ rd xs (oldB xs r b) ≤ rd xs b ∧ (rd xs (oldB xs r b) = rd xs b → oldB xs r b = b) ∧ ∀ i ∈ r, rd xs (oldB xs r b) ≤ rd xs i ∧ (rd xs (oldB xs r b) = rd xs i → oldB xs r b ≤ i) := by
  intro r
  induction r with
  | nil => intro b _ _; exact ⟨.inl rfl, Int.le_refl _, fun _ => rfl, fun i hi => by simp at hi⟩
  | cons c cs ih =>
    intro b hb hr
    have hcs : ∀ i ∈ cs, c < i := by
      clear ih hb
      induction cs generalizing c with
      | nil => intro i hi; simp at hi
      | cons d ds ih2 =>
        intro i hi
        rcases List.mem_cons.1 hi with rfl | hi
        · exact hr.1
        · have := ih2 d hr.2 i hi; have := hr.1; omega
    have hbc := hb c (by simp)
    unfold oldB
    by_cases e : rd xs c < rd xs b
    · rw [if_pos e]
      obtain ⟨h1, h2, h3, h4⟩ := ih c hcs hr.tail
      refine ⟨?_, by omega, fun h => by omega, ?_⟩
      · rcases h1 with h1 | h1
        · rw [h1]; right; simp
        · right; simp [h1]
      · intro i hi
        rcases List.mem_cons.1 hi with rfl | hi
        · exact ⟨h2, fun h => by rw [h3 h]; omega⟩
        · exact h4 i hi
    · rw [if_neg e]
      obtain ⟨h1, h2, h3, h4⟩ := ih b (fun i hi => hb i (by simp [hi])) hr.tail
      refine ⟨?_, h2, h3, ?_⟩
      · rcases h1 with h1 | h1
        · left; exact h1
        · right; simp [h1]
      · intro i hi
        rcases List.mem_cons.1 hi with rfl | hi
        · exact ⟨by omega, fun h => by have := h3 (by omega); omega⟩
        · exact h4 i hi
theorem old_says {xs : List Int} {y e : Int} (hp : 0 < (jub xs y e).length) : oldOf xs y e ∈ jub xs y e ∧ ∀ i ∈ jub xs y e, rd xs (oldOf xs y e) ≤ rd xs i ∧ (rd xs (oldOf xs y e) = rd xs i → oldOf xs y e ≤ i) := by
  unfold oldOf
  have hrise := jub_rise xs y e
  cases hq : jub xs y e with
  | nil => rw [hq] at hp; simp at hp
  | cons c cs =>
    rw [hq] at hrise
    have hcs : ∀ i ∈ cs, c < i := by
      clear hq hp
      induction cs generalizing c with
      | nil => intro i hi; simp at hi
      | cons d ds ih2 =>
        intro i hi
        rcases List.mem_cons.1 hi with rfl | hi
        · exact hrise.1
        · have := ih2 d hrise.2 i hi; have := hrise.1; omega
    rw [show rd (c :: cs) 0 = c from rfl]
    simp only [oldB, Int.lt_irrefl, if_false]
    obtain ⟨h1, h2, h3, h4⟩ := oldB_says xs cs c hcs hrise.tail
    refine ⟨?_, ?_⟩
    · rcases h1 with h1 | h1
      · rw [h1]; simp
      · simp [h1]
    · intro i hi
      rcases List.mem_cons.1 hi with rfl | hi
      · exact ⟨h2, fun h => by rw [h3 h]; omega⟩
      · exact h4 i hi

/-! ### together -/
def togL (xs : List Int) (e : Int) : Nat → Int → List Int
  | 0, _ => []
  | d + 1, y => if (jub xs y e).length = xs.length then y :: togL xs e d (y + 1) else togL xs e d (y + 1)
theorem tog_l0 (xs : List Int) (e : Int) (g : Good xs e) : ∀ (d k : Nat) (y : Int) (out : List Int), 0 ≤ y → y + d = 3001 → d + 11 < k → out.length + d ≤ 100000 →
    impl_TogetherJubilees.l0 k xs e out y = some (out ++ togL xs e d y, true) := by
  intro d
  induction d with
  | zero =>
    intro k y out h0 h1 hk ho
    obtain ⟨k, rfl⟩ : ∃ m, k = m + 1 := ⟨k - 1, by omega⟩
    simp only [impl_TogetherJubilees.l0]
    rw [if_neg (by omega)]
    simp [togL]
  | succ d ih =>
    intro k y out h0 h1 hk ho
    obtain ⟨k, rfl⟩ : ∃ m, k = m + 1 := ⟨k - 1, by omega⟩
    simp only [impl_TogetherJubilees.l0, togL]
    rw [if_pos (by omega), g.imp k (by omega) ⟨by omega, by omega⟩]
    simp only [Option.bind_some]
    rw [w64 (x := y + 1) (by omega) (by omega)]
    by_cases hp : (jub xs y e).length = xs.length
    · rw [if_pos (by omega), if_pos hp, if_pos (by omega), ih k (y + 1) _ (by omega) (by omega) (by omega) (by simp; omega)]
      simp
    · rw [if_neg (by omega), if_neg hp, ih k (y + 1) _ (by omega) (by omega) (by omega) (by omega)]
theorem specTog_l0 (xs : List Int) (e m : Int) (g : Good xs e) (hx : 0 < xs.length) (hm : m = min (rd xs 0 + 120) 3000) : ∀ (d k : Nat) (y : Int) (out : List Int), 0 ≤ y → y + d = m + 1 → 2 * d + 15 < k → out.length + d ≤ 100000 →
    spec_TogetherJubilees.l0 k xs e out y = some (out ++ togL xs e d y, true) := by
  have h00 := rd_range g.all 0 (by omega) (by omega)
  intro d
  induction d with
  | zero =>
    intro k y out h0 h1 hk ho
    obtain ⟨k, rfl⟩ : ∃ m, k = m + 2 := ⟨k - 2, by omega⟩
    simp only [spec_TogetherJubilees.l0, spec_TogetherJubilees.j2]
    rw [if_pos (by omega), w64 (x := rd xs 0 + 120) (by omega) (by omega)]
    by_cases hc : y ≤ rd xs 0 + 120
    · rw [if_pos hc, if_neg (by simp; omega)]; simp [togL]
    · rw [if_neg hc, if_neg (by simp)]; simp [togL]
  | succ d ih =>
    intro k y out h0 h1 hk ho
    obtain ⟨k, rfl⟩ : ∃ m, k = m + 2 := ⟨k - 2, by omega⟩
    simp only [spec_TogetherJubilees.l0, spec_TogetherJubilees.j2, togL]
    rw [if_pos (by omega), w64 (x := rd xs 0 + 120) (by omega) (by omega), if_pos (by omega), if_pos (by simp; omega), g.spec k (by omega) ⟨by omega, by omega⟩]
    simp only [Option.bind_some]
    rw [w64 (x := y + 1) (by omega) (by omega)]
    by_cases hp : (jub xs y e).length = xs.length
    · rw [if_pos (by omega), if_pos hp, if_pos (by omega), ih k (y + 1) _ (by omega) (by omega) (by omega) (by simp; omega)]
      simp
    · rw [if_neg (by omega), if_neg hp, ih k (y + 1) _ (by omega) (by omega) (by omega) (by omega)]
theorem togL_add (xs : List Int) (e : Int) : ∀ (a b : Nat) (y : Int), togL xs e (a + b) y = togL xs e a y ++ togL xs e b (y + a) := by
  intro a
  induction a with
  | zero => intro b y; simp [togL]
  | succ a ih =>
    intro b y
    rw [show a + 1 + b = (a + b) + 1 from by omega]
    simp only [togL]
    rw [ih, show y + 1 + (a : Int) = y + ((a + 1 : Nat) : Int) from by omega]
    split <;> simp
theorem togL_none (xs : List Int) (e : Int) : ∀ (d : Nat) (y : Int), (∀ z, y ≤ z → z < y + d → (jub xs z e).length ≠ xs.length) → togL xs e d y = [] := by
  intro d
  induction d with
  | zero => intro y _; rfl
  | succ d ih =>
    intro y h
    simp only [togL]
    rw [if_neg (h y (by omega) (by omega))]
    exact ih (y + 1) (fun z h1 h2 => h z (by omega) (by omega))
theorem jub_full {xs : List Int} {y e : Int} (hx : 0 < xs.length) (h : (jub xs y e).length = xs.length) : rd xs 0 < y ∧ y ≤ rd xs 0 + 120 := by
  cases xs with
  | nil => simp at hx
  | cons b bs =>
    unfold jub jubL at h
    have := jubL_length y e bs (0 + 1)
    simp only [Int.zero_add] at h this
    split at h
    · rename_i hj
      rw [jubOk_iff] at hj
      have : rd (b :: bs) 0 = b := rfl
      omega
    · simp at h; omega
def togR (xs : List Int) (e : Int) : List Int × Bool := if goodB xs = true ∧ inB 1 100 e = true then (togL xs e 3001 0, true) else ([], false)
theorem Together_v (k : Nat) (xs : List Int) (e : Int) (hk : 5000 ≤ k) : impl_TogetherJubilees.f k xs e = some (togR xs e) := by
  unfold impl_TogetherJubilees.f togR
  rw [AreBirths_v, isEvery_v]
  obtain ⟨k, rfl⟩ : ∃ m, k = m + 1 := ⟨k - 1, by omega⟩
  simp only [Option.bind_some]
  by_cases h1 : goodB xs = true
  · by_cases h3 : inB 1 100 e = true
    · simp only [h1, h3, if_true, Bool.not_true, impl_TogetherJubilees.j0, and_self]
      rw [if_neg (by decide)]
      have := tog_l0 xs e (Good.of h1 h3) 3001 k 0 [] (by omega) (by omega) (by omega) (by simp)
      rw [this]; simp
    · simp only [Bool.not_eq_true] at h3; simp [h1, h3, impl_TogetherJubilees.j0]
  · simp only [Bool.not_eq_true] at h1; simp [h1, impl_TogetherJubilees.j0]
theorem specTogether_v (k : Nat) (xs : List Int) (e : Int) (hk : 8000 ≤ k) (hx : xs.length < 500) : spec_TogetherJubilees.f k xs e = some (togR xs e) := by
  unfold spec_TogetherJubilees.f togR
  rw [roBorn_v k xs (by omega) (by omega), roEvery_v]
  obtain ⟨k, rfl⟩ : ∃ m, k = m + 1 := ⟨k - 1, by omega⟩
  simp only [Option.bind_some]
  by_cases h1 : goodB xs = true
  · by_cases h3 : inB 1 100 e = true
    · have g := Good.of h1 h3
      have hp : 0 < xs.length := by rw [goodB_iff] at h1; omega
      have h00 := rd_range g.all 0 (by omega) (by omega)
      simp only [h1, h3, if_true, Bool.not_true, spec_TogetherJubilees.j0, and_self]
      rw [if_neg (by decide), if_pos (by omega), w64 (by omega) (by omega)]
      have := specTog_l0 xs e _ g hp rfl (min (rd xs 0 + 120) 3000 - rd xs 0).toNat k (rd xs 0 + 1) [] (by omega) (by omega) (by omega) (by simp; omega)
      rw [this]
      obtain ⟨c, hc⟩ : ∃ c : Nat, (3001 : Nat) = (rd xs 0 + 1).toNat + ((min (rd xs 0 + 120) 3000 - rd xs 0).toNat + c) := ⟨3001 - ((rd xs 0 + 1).toNat + (min (rd xs 0 + 120) 3000 - rd xs 0).toNat), by omega⟩
      rw [hc, togL_add, togL_add]
      rw [togL_none xs e (rd xs 0 + 1).toNat 0 (fun z z1 z2 hz => by have := jub_full hp hz; omega)]
      rw [togL_none xs e c _ (fun z z1 z2 hz => by have := jub_full hp hz; omega)]
      rw [show (0 : Int) + ((rd xs 0 + 1).toNat : Int) = rd xs 0 + 1 from by omega]
      simp
    · simp only [Bool.not_eq_true] at h3; simp [h1, h3, spec_TogetherJubilees.j0]
  · simp only [Bool.not_eq_true] at h1; simp [h1, spec_TogetherJubilees.j0]
theorem togL_says (xs : List Int) (e : Int) : ∀ (d : Nat) (y : Int), Rise (togL xs e d y) ∧ (togL xs e d y).length ≤ d ∧ ∀ z ∈ togL xs e d y, y ≤ z ∧ z < y + d ∧ (jub xs z e).length = xs.length := by
  intro d
  induction d with
  | zero => intro y; exact ⟨trivial, by simp [togL], fun z hz => by simp [togL] at hz⟩
  | succ d ih =>
    intro y
    obtain ⟨h1, h2, h3⟩ := ih (y + 1)
    simp only [togL]
    split
    · rename_i hp
      refine ⟨?_, by simp; omega, ?_⟩
      · cases hq : togL xs e d (y + 1) with
        | nil => trivial
        | cons c cs => rw [hq] at h1 h3; exact ⟨by have := (h3 c (by simp)).1; omega, h1⟩
      · intro z hz
        rcases List.mem_cons.1 hz with rfl | hz
        · exact ⟨by omega, by omega, hp⟩
        · have := h3 z hz; exact ⟨by omega, by omega, this.2.2⟩
    · exact ⟨h1, by omega, fun z hz => by have := h3 z hz; exact ⟨by omega, by omega, this.2.2⟩⟩

/-! ### anniversaries -/
def annOk (s e y : Int) : Bool := decide (0 < y - s) && (Int.tmod (y - s) e == 0)
def annL (s e : Int) : Nat → Int → List Int
  | 0, _ => []
  | d + 1, y => if annOk s e y = true then y :: annL s e d (y + 1) else annL s e d (y + 1)
theorem ann_l0 (s e b : Int) (he : 1 ≤ e) (hs : 0 ≤ s ∧ s ≤ 3000) : ∀ (d k : Nat) (y : Int) (out : List Int), 0 ≤ y → y + d = b + 1 → b ≤ 3000 → d < k → out.length + d ≤ 100000 →
    impl_Anniversaries.l0 k s b e out y = some (out ++ annL s e d y, true) := by
  intro d
  induction d with
  | zero =>
    intro k y out h0 h1 h2 hk ho
    obtain ⟨k, rfl⟩ : ∃ m, k = m + 1 := ⟨k - 1, by omega⟩
    simp only [impl_Anniversaries.l0]
    rw [if_neg (by omega)]
    simp [annL]
  | succ d ih =>
    intro k y out h0 h1 h2 hk ho
    obtain ⟨k, rfl⟩ : ∃ m, k = m + 1 := ⟨k - 1, by omega⟩
    simp only [impl_Anniversaries.l0, annL]
    rw [if_pos (by omega), w64 (x := y - s) (by omega) (by omega), isRound_v _ _ he]
    simp only [Option.bind_some]
    rw [w64 (x := y + 1) (by omega) (by omega)]
    by_cases hp : annOk s e y = true
    · rw [if_pos (show (decide (0 < y - s) && (Int.tmod (y - s) e == 0)) = true from hp), if_pos hp, if_pos (by omega), ih k (y + 1) _ (by omega) (by omega) h2 (by omega) (by simp; omega)]
      simp
    · rw [if_neg (show ¬ (decide (0 < y - s) && (Int.tmod (y - s) e == 0)) = true from hp), if_neg hp, ih k (y + 1) _ (by omega) (by omega) h2 (by omega) (by omega)]
theorem specAnn_l0 (s e b : Int) (he : 1 ≤ e) (hs : 0 ≤ s ∧ s ≤ 3000) : ∀ (d k : Nat) (y : Int) (out : List Int), 0 ≤ y → y + d = b + 1 → b ≤ 3000 → d < k → out.length + d ≤ 100000 →
    spec_Anniversaries.l0 k s b e out y = some (out ++ annL s e d y, true) := by
  intro d
  induction d with
  | zero =>
    intro k y out h0 h1 h2 hk ho
    obtain ⟨k, rfl⟩ : ∃ m, k = m + 1 := ⟨k - 1, by omega⟩
    simp only [spec_Anniversaries.l0]
    rw [if_neg (by omega)]
    simp [annL]
  | succ d ih =>
    intro k y out h0 h1 h2 hk ho
    obtain ⟨k, rfl⟩ : ∃ m, k = m + 1 := ⟨k - 1, by omega⟩
    simp only [spec_Anniversaries.l0, annL]
    rw [if_pos (by omega), w64 (x := y - s) (by omega) (by omega), roRound_v _ _ he]
    simp only [Option.bind_some]
    rw [w64 (x := y + 1) (by omega) (by omega)]
    by_cases hp : annOk s e y = true
    · rw [if_pos (show (decide (0 < y - s) && (Int.tmod (y - s) e == 0)) = true from hp), if_pos hp, if_pos (by omega), ih k (y + 1) _ (by omega) (by omega) h2 (by omega) (by simp; omega)]
      simp
    · rw [if_neg (show ¬ (decide (0 < y - s) && (Int.tmod (y - s) e == 0)) = true from hp), if_neg hp, ih k (y + 1) _ (by omega) (by omega) h2 (by omega) (by omega)]
def annB (s a b e : Int) : Bool := inB 0 3000 s && spanB a b && inB 1 100 e
theorem annB_iff {s a b e : Int} : annB s a b e = true ↔ inB 0 3000 s = true ∧ spanB a b = true ∧ inB 1 100 e = true := by simp only [annB, Bool.and_eq_true, and_assoc]
def annR (s a b e : Int) : List Int × Bool := if annB s a b e = true then (annL s e (b - a + 1).toNat a, true) else ([], false)
theorem Ann_v (k : Nat) (s a b e : Int) (hk : 300 ≤ k) : impl_Anniversaries.f k s a b e = some (annR s a b e) := by
  unfold impl_Anniversaries.f annR annB
  rw [isYear_v, isSpan_v, isEvery_v]
  obtain ⟨k, rfl⟩ : ∃ m, k = m + 1 := ⟨k - 1, by omega⟩
  simp only [Option.bind_some]
  by_cases h1 : inB 0 3000 s = true
  · by_cases h2 : spanB a b = true
    · by_cases h3 : inB 1 100 e = true
      · simp only [h1, h2, h3, if_true, Bool.and_self, Bool.not_true, impl_Anniversaries.j0]
        rw [if_neg (by decide)]
        rw [inB_iff] at h1 h3
        rw [spanB_iff] at h2
        have := ann_l0 s e b h3.1 h1 (b - a + 1).toNat k a [] (by omega) (by omega) (by omega) (by omega) (by simp; omega)
        rw [this]; simp
      · simp only [Bool.not_eq_true] at h3; simp [h1, h2, h3, impl_Anniversaries.j0]
    · simp only [Bool.not_eq_true] at h2; simp [h1, h2, impl_Anniversaries.j0]
  · simp only [Bool.not_eq_true] at h1; simp [h1, impl_Anniversaries.j0]
theorem annL_mem (s e : Int) : ∀ (d : Nat) (y z : Int), z ∈ annL s e d y ↔ (y ≤ z ∧ z < y + d ∧ annOk s e z = true) := by
  intro d
  induction d with
  | zero => intro y z; simp [annL]; intro h1 h2; omega
  | succ d ih =>
    intro y z
    simp only [annL]
    by_cases hz : z = y
    · subst hz
      by_cases hp : annOk s e z = true
      · rw [if_pos hp]; simp [hp]; omega
      · rw [if_neg hp, ih]; simp [hp]
    · by_cases hp : annOk s e y = true
      · rw [if_pos hp, List.mem_cons, ih]
        constructor
        · rintro (h | h)
          · exact absurd h hz
          · exact ⟨by omega, by omega, h.2.2⟩
        · intro h; exact .inr ⟨by omega, by omega, h.2.2⟩
      · rw [if_neg hp, ih]
        constructor
        · intro h; exact ⟨by omega, by omega, h.2.2⟩
        · intro h; exact ⟨by omega, by omega, h.2.2⟩
theorem annL_length (s e : Int) : ∀ (d : Nat) (y : Int), (annL s e d y).length ≤ d := by
  intro d
  induction d with
  | zero => intro y; simp [annL]
  | succ d ih => intro y; have := ih (y + 1); simp only [annL]; split <;> simp <;> omega
end Go.Proofs.Ytiacjmaofdimgaa.PFnJubileesCome
