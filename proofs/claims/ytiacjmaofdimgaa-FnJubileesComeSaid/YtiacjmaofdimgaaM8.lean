/- The law's first half: the calendar's years, one after the other, and the longest quiet part. -/
import Derived.Test.YtiacjmaofdimgaaM7
namespace Go.Proofs.Ytiacjmaofdimgaa.PFnJubileesCome
open Go.RowKit Go.Proofs.YtiacjmaofdimgaaW.PrintWords Go.Proofs.YtiacjmaofdimgaaW.PrintLast
set_option linter.unusedVariables false
set_option linter.unusedSimpArgs false

/-! ### what the quiet parts say -/
/-- One year. -/
def qStep (xs : List Int) (e y : Int) (s : Int × Int × Int) : Int × Int × Int := if 0 < (jub xs y e).length then (s.1, s.2.1, 0) else if s.2.2 + 1 > s.2.1 then (y - s.2.2, s.2.2 + 1, s.2.2 + 1) else (s.1, s.2.1, s.2.2 + 1)
theorem quietY_succ (xs : List Int) (e : Int) (d : Nat) (y : Int) (s : Int × Int × Int) : quietY xs e (d + 1) y s = quietY xs e d (y + 1) (qStep xs e y s) := rfl
/-- What holds ahead of year y: a is the first year of all. -/
structure QI (xs : List Int) (e a y : Int) (s : Int × Int × Int) : Prop where
  r0 : 0 ≤ s.2.2
  rm : s.2.2 ≤ s.2.1
  ra : a ≤ y - s.2.2
  fst : s.1 ≤ y - s.2.2
  cur : ∀ z, y - s.2.2 ≤ z → z < y → (jub xs z e).length = 0
  best : 0 < s.2.1 → a ≤ s.1 ∧ s.1 + s.2.1 ≤ y ∧ ∀ z, s.1 ≤ z → z < s.1 + s.2.1 → (jub xs z e).length = 0
theorem QI.start (xs : List Int) (e a : Int) (ha : 0 ≤ a) : QI xs e a a (0, 0, 0) := ⟨by simp, by simp, by simp, by simpa using ha, fun z h1 h2 => by simp at h1; omega, fun h => by simp at h⟩
theorem QI.step {xs : List Int} {e a y : Int} {s : Int × Int × Int} (h : QI xs e a y s) : QI xs e a (y + 1) (qStep xs e y s) := by
  obtain ⟨r0, rm, ra, fst, cur, best⟩ := h
  unfold qStep
  by_cases hp : 0 < (jub xs y e).length
  · rw [if_pos hp]
    exact ⟨by simp, by simp only; omega, by simp only; omega, by simp only; omega, fun z h1 h2 => by simp only at h1; omega, fun hb => by obtain ⟨b1, b2, b3⟩ := best hb; exact ⟨b1, by simp only; omega, b3⟩⟩
  · rw [if_neg hp]
    have cur' : ∀ z, y - s.2.2 ≤ z → z < y + 1 → (jub xs z e).length = 0 := by
      intro z h1 h2
      by_cases q : z = y
      · subst q; omega
      · exact cur z h1 (by omega)
    by_cases hc : s.2.2 + 1 > s.2.1
    · rw [if_pos hc]
      refine ⟨by simp only; omega, by simp, by simp only; omega, by simp only; omega, fun z h1 h2 => cur' z (by simp only at h1; omega) h2, fun _ => ⟨by simp only; omega, by simp only; omega, fun z h1 h2 => cur' z (by simpa using h1) (by simp only at h2; omega)⟩⟩
    · rw [if_neg hc]
      refine ⟨by simp only; omega, by simp only; omega, by simp only; omega, by simp only; omega, fun z h1 h2 => cur' z (by simp only at h1; omega) h2, fun hb => ?_⟩
      obtain ⟨b1, b2, b3⟩ := best hb
      exact ⟨b1, by simp only; omega, b3⟩
theorem qStep_mono (xs : List Int) (e y : Int) (s : Int × Int × Int) : s.2.1 ≤ (qStep xs e y s).2.1 ∧ ((qStep xs e y s).2.1 = s.2.1 → (qStep xs e y s).1 = s.1) := by
  unfold qStep
  by_cases hp : 0 < (jub xs y e).length
  · rw [if_pos hp]; exact ⟨Int.le_refl _, fun _ => rfl⟩
  · rw [if_neg hp]
    by_cases hc : s.2.2 + 1 > s.2.1
    · rw [if_pos hc]; exact ⟨by simp only; omega, fun h => by simp only at h; omega⟩
    · rw [if_neg hc]; exact ⟨Int.le_refl _, fun _ => rfl⟩
theorem quietY_mono (xs : List Int) (e : Int) : ∀ (d : Nat) (y : Int) (s : Int × Int × Int), s.2.1 ≤ (quietY xs e d y s).2.1 ∧ ((quietY xs e d y s).2.1 = s.2.1 → (quietY xs e d y s).1 = s.1) := by
  intro d
  induction d with
  | zero => intro y s; exact ⟨Int.le_refl _, fun _ => rfl⟩
  | succ d ih =>
    intro y s
    rw [quietY_succ]
    obtain ⟨h1, h2⟩ := ih (y + 1) (qStep xs e y s)
    obtain ⟨h3, h4⟩ := qStep_mono xs e y s
    exact ⟨by omega, fun h => by rw [h2 (by omega), h4 (by omega)]⟩
theorem quiet_none (xs : List Int) (e : Int) : ∀ (d : Nat) (y : Int) (s : Int × Int × Int), 0 ≤ s.2.1 → 0 ≤ s.2.2 → ((calL xs e d y).length < d → 1 ≤ (quietY xs e d y s).2.1) ∧ ((calL xs e d y).length = d → s.2.2 = 0 → (quietY xs e d y s).2.1 = s.2.1) := by
  intro d
  induction d with
  | zero => intro y s h0 h1; exact ⟨fun h => by simp at h, fun _ _ => rfl⟩
  | succ d ih =>
    intro y s h0 h1
    have hl := calL_length xs e d (y + 1)
    rw [quietY_succ]
    by_cases hp : 0 < (jub xs y e).length
    · have e1 : calL xs e (d + 1) y = (y :: jub xs y e) :: calL xs e d (y + 1) := by simp only [calL]; rw [if_pos hp]
      have e2 : qStep xs e y s = (s.1, s.2.1, 0) := by unfold qStep; rw [if_pos hp]
      rw [e1, e2]
      obtain ⟨a1, a2⟩ := ih (y + 1) (s.1, s.2.1, 0) h0 (by simp)
      refine ⟨fun h => a1 (by simp at h; omega), fun h h2 => ?_⟩
      have := a2 (by simp at h; omega) rfl
      exact this
    · have e1 : calL xs e (d + 1) y = calL xs e d (y + 1) := by simp only [calL]; rw [if_neg hp]
      rw [e1]
      have hm := (quietY_mono xs e d (y + 1) (qStep xs e y s)).1
      have hq : 1 ≤ (qStep xs e y s).2.1 := by
        unfold qStep
        rw [if_neg hp]
        by_cases hc : s.2.2 + 1 > s.2.1
        · rw [if_pos hc]; simp only; omega
        · rw [if_neg hc]; simp only; omega
      exact ⟨fun _ => by omega, fun h => by omega⟩

/-! ### the quiet part's years -/
theorem l1_v (l u : List Int) (a b e q long : Int) (h : allB u a b e = true) (h0 : a ≤ q) (h1 : q + long ≤ b + 1) (hno : ∀ z, q ≤ z → z < q + long → (jub u z e).length = 0)
    (hend : ∀ k, 50000 ≤ k → laws_FnJubileesCome.j10 k l = some true) : ∀ (d k : Nat) (z : Int), q ≤ z → z + d = q + long → d + 50000 < k → laws_FnJubileesCome.l1 k l u a b e q long z = some true := by
  obtain ⟨g1, g2, g3⟩ := allB_iff.1 h
  rw [spanB_iff] at g2
  intro d
  induction d with
  | zero =>
    intro k z hz1 hz2 hk
    obtain ⟨k, rfl⟩ : ∃ m, k = m + 1 := ⟨k - 1, by omega⟩
    simp only [laws_FnJubileesCome.l1]
    rw [w64 (by omega) (by omega), if_neg (by omega)]
    exact hend k (by omega)
  | succ d ih =>
    intro k z hz1 hz2 hk
    obtain ⟨k, rfl⟩ : ∃ m, k = m + 1 := ⟨k - 1, by omega⟩
    simp only [laws_FnJubileesCome.l1]
    rw [w64 (x := q + long) (by omega) (by omega), if_pos (by omega), JubileesIn_v k u z e (by omega), if_pos (inR_iff.2 ⟨g1, inB_iff.2 ⟨by omega, by omega⟩, g3⟩)]
    simp only [Option.bind_some, if_true]
    have := hno z hz1 (by omega)
    rw [if_neg (by omega), if_neg (by omega), if_pos (by omega), w64 (by omega) (by omega)]
    exact ih k (z + 1) (by omega) (by omega) (by omega)
theorem l0_v (l u : List Int) (a b e : Int) (h : allB u a b e = true) (hend : ∀ k, 50000 ≤ k → laws_FnJubileesCome.j10 k l = some true) : ∀ (d k i : Nat) (y n : Int) (s : Int × Int × Int), a ≤ y → y + d = b + 1 → 4 * d + 51000 < k →
    (calOf u a b e).drop i = calL u e d y → i ≤ (calOf u a b e).length → 0 ≤ n → n + cnt u e d y = cntOf u a b e → n ≤ 10 * (y - a) → QI u e a y s → quietY u e d y s = quietOf u a b e →
    laws_FnJubileesCome.l0 k l u a b e (calOf u a b e) (cntOf u a b e) (mostOf u a b e).1 (mostOf u a b e).2 (quietR u a b e).1 (quietR u a b e).2.1 (quietR u a b e).2.2 n (i : Int) s.2.2 y = some true := by
  obtain ⟨g1, g2, g3⟩ := allB_iff.1 h
  have g := Good.of g1 g3
  have hcl := calOf_length (xs := u) (e := e) g2
  rw [spanB_iff] at g2
  have hq : quietR u a b e = quietF (quietOf u a b e) := by unfold quietR; rw [if_pos h]
  have hms := mostY_says u e (b - a + 1).toNat a (a, 0) (by simp)
  have hcb := cnt_bound u e g (b - a + 1).toNat a
  intro d
  induction d with
  | zero =>
    intro k i y n s hy1 hy2 hk hdrop hile hn0 hn1 hn2 hQ hF
    obtain ⟨k, rfl⟩ : ∃ m, k = m + 2 := ⟨k - 2, by omega⟩
    simp only [laws_FnJubileesCome.l0]
    simp only [cnt] at hn1
    rw [if_neg (by omega), if_pos (by omega)]
    have hil : (calOf u a b e).length ≤ i := by simpa [calL] using hdrop
    have hF' : quietOf u a b e = s := hF.symm
    rw [show ((i : Int) != ((calOf u a b e).length : Int)) = false from by simp; omega]
    simp only [laws_FnJubileesCome.j8]
    rw [if_neg (by decide)]
    rw [hq, hF']
    unfold quietF
    have hr0 := hQ.r0
    have hrm := hQ.rm
    by_cases hz : s.2.1 = 0
    · rw [if_pos hz]
      simp only [Bool.false_eq_true, if_false]
      exact hend k (by omega)
    · rw [if_neg hz]
      simp only [if_true]
      obtain ⟨b1, b2, b3⟩ := hQ.best (by omega)
      exact l1_v l u a b e s.1 s.2.1 h b1 (by omega) b3 hend s.2.1.toNat k s.1 (by omega) (by omega) (by omega)
  | succ d ih =>
    intro k i y n s hy1 hy2 hk hdrop hile hn0 hn1 hn2 hQ hF
    obtain ⟨k, rfl⟩ : ∃ m, k = m + 4 := ⟨k - 4, by omega⟩
    have hj := g.jlen y
    have hmy := hms.2.2 y hy1 (by omega)
    have hcd := cnt_bound u e g d (y + 1)
    have hQ' := hQ.step
    rw [quietY_succ] at hF
    have hmono := quietY_mono u e d (y + 1) (qStep u e y s)
    rw [hF] at hmono
    have hlong : (quietR u a b e).2.1 = (quietOf u a b e).2.1 := by
      rw [hq]; unfold quietF; split
      · rename_i hz; rw [hz]
      · rfl
    have hr0 := hQ.r0
    have hrm := hQ.rm
    have hra := hQ.ra
    have hgo : ∀ (i' : Nat), (calOf u a b e).drop i' = calL u e d (y + 1) → i' ≤ (calOf u a b e).length → ∀ run, run = (qStep u e y s).2.2 → ∀ k', 4 * d + 51000 < k' →
        laws_FnJubileesCome.l0 k' l u a b e (calOf u a b e) (cntOf u a b e) (mostOf u a b e).1 (mostOf u a b e).2 (quietR u a b e).1 (quietR u a b e).2.1 (quietR u a b e).2.2 (n + ((jub u y e).length : Int)) (i' : Int) run (y + 1) = some true := by
      intro i' hd hi run hrun k' hk'
      subst hrun
      exact ih k' i' (y + 1) (n + ((jub u y e).length : Int)) (qStep u e y s) (by omega) (by omega) hk' hd hi (by omega) (by simp only [cnt] at hn1; omega) (by omega) hQ' hF
    have hj3 : ∀ k', 4 * d + 51002 < k' → laws_FnJubileesCome.j6 k' l u a b e (calOf u a b e) (cntOf u a b e) (mostOf u a b e).1 (mostOf u a b e).2 (quietR u a b e).1 (quietR u a b e).2.1 (quietR u a b e).2.2 n (i : Int) s.2.2 y (jub u y e) false = some true := by
      intro k' hk'
      obtain ⟨k', rfl⟩ : ∃ m, k' = m + 2 := ⟨k' - 2, by omega⟩
      simp only [laws_FnJubileesCome.j6]
      rw [if_neg (by decide), w64 (x := n + ((jub u y e).length : Int)) (by omega) (by omega), w64 (x := ((jub u y e).length : Int) + 1) (by omega) (by omega)]
      by_cases hp : 0 < (jub u y e).length
      · have hd2 : (calOf u a b e).drop i = (y :: jub u y e) :: calL u e d (y + 1) := by rw [hdrop]; simp only [calL]; rw [if_pos hp]
        obtain ⟨hl, hrd, hd⟩ := rd2_of_drop hd2
        have e2 : (qStep u e y s).2.2 = 0 := by unfold qStep; rw [if_pos hp]
        rw [if_pos (by omega), if_neg (by omega), if_pos (by omega), if_pos (by omega), hrd, if_pos (by simp), if_pos (by simp <;> omega), if_pos (show rd (y :: jub u y e) 0 = y from rfl), if_pos (by simp <;> omega)]
        rw [show (y :: jub u y e).drop 1 = jub u y e from rfl, qSame_self (k' + 1) _ (by omega) (by omega)]
        simp only [Option.bind_some, Bool.not_true, laws_FnJubileesCome.j7]
        rw [if_neg (by decide), hlong, w_succ i (by omega), w64 (x := y + 1) (by omega) (by omega)]
        have hfin := hgo (i + 1) hd (by omega) 0 e2.symm k' (by omega)
        rw [hlong] at hfin
        have hz1 : 0 ≤ (quietOf u a b e).2.1 := by have := hQ'.r0; have := hQ'.rm; have := hmono.1; omega
        rw [if_neg (by omega)]
        by_cases hq0 : 0 = (quietOf u a b e).2.1
        · rw [if_pos hq0, if_neg (by omega)]; exact hfin
        · rw [if_neg hq0]; exact hfin
      · have hd2 : (calOf u a b e).drop i = calL u e d (y + 1) := by rw [hdrop]; simp only [calL]; rw [if_neg hp]
        have e2 : (qStep u e y s).2.2 = s.2.2 + 1 := by unfold qStep; rw [if_neg hp]; split <;> rfl
        have hrm' := hQ'.rm
        have hfst' := hQ'.fst
        rw [if_neg (by omega), w64 (x := s.2.2 + 1) (by omega) (by omega), w64 (x := y - (s.2.2 + 1)) (by omega) (by omega), w64 (x := y - (s.2.2 + 1) + 1) (by omega) (by omega), w64 (x := y + 1) (by omega) (by omega)]
        have hfin := hgo i hd2 hile (s.2.2 + 1) e2.symm (k' + 1) (by omega)
        rw [if_neg (by rw [hlong]; omega)]
        by_cases hz : s.2.2 + 1 = (quietR u a b e).2.1
        · rw [if_pos hz, if_pos (by omega)]
          have hq1 : (quietR u a b e).1 = (quietOf u a b e).1 := by
            rw [hq]; unfold quietF; rw [if_neg (by rw [hlong] at hz; omega)]
          rw [if_neg (by rw [hq1]; have := hmono.2 (by rw [hlong] at hz; omega); omega)]
          exact hfin
        · rw [if_neg hz]; exact hfin
    simp only [laws_FnJubileesCome.l0]
    rw [if_pos (by omega), JubileesIn_v (k + 3) u y e (by omega), if_pos (inR_iff.2 ⟨g1, inB_iff.2 ⟨by omega, by omega⟩, g3⟩)]
    simp only [Option.bind_some, if_true]
    rw [qRises_v (k + 3) _ (jub_rise u y e) (by omega) (by omega)]
    simp only [Option.bind_some, if_true]
    have hm1 : ((jub u y e).length : Int) ≤ (mostOf u a b e).2 := hmy.1
    have hm2 : ((jub u y e).length : Int) = (mostOf u a b e).2 → (mostOf u a b e).1 ≤ y := hmy.2
    have hm3 : y = (mostOf u a b e).1 → ((jub u y e).length : Int) = (mostOf u a b e).2 := by
      intro hy
      rcases hms.2.1 with hr | hr
      · have e3 : mostOf u a b e = (a, 0) := hr
        rw [e3] at hm1 ⊢
        simp only at hm1 ⊢; omega
      · have := hr.2.2.1
        rw [show y = (mostY u e (b - a + 1).toNat a (a, 0)).1 from hy]
        exact this
    rw [if_neg (by omega)]
    by_cases hc : ((jub u y e).length : Int) = (mostOf u a b e).2
    · rw [if_pos hc, if_neg (by have := hm2 hc; omega)]
      have e4 : (((jub u y e).length : Int) != (mostOf u a b e).2) = false := by rw [hc]; simp
      rw [e4]
      simp only [ite_self]
      exact hj3 (k + 3) (by omega)
    · rw [if_neg hc, if_neg (fun hh => hc (hm3 hh))]
      exact hj3 (k + 3) (by omega)
theorem j1_v (k : Nat) (l u : List Int) (a b e : Int) (hl : Bytes l) (hk : 100000 ≤ k) :
    laws_FnJubileesCome.j4 k l u a b e (if allB u a b e = true then (calOf u a b e, true) else ([], false)).1 (if allB u a b e = true then (calOf u a b e, true) else ([], false)).2 (if allB u a b e = true then (cntOf u a b e, true) else (0, false)).1 (if allB u a b e = true then ((mostOf u a b e).1, (mostOf u a b e).2, true) else (0, 0, false)).1 (if allB u a b e = true then ((mostOf u a b e).1, (mostOf u a b e).2, true) else (0, 0, false)).2.1 (quietR u a b e).1 (quietR u a b e).2.1 (quietR u a b e).2.2 = some true := by
  obtain ⟨k, rfl⟩ : ∃ m, k = m + 1 := ⟨k - 1, by omega⟩
  simp only [laws_FnJubileesCome.j4]
  by_cases h : allB u a b e = true
  · simp only [h, if_true]
    obtain ⟨g1, g2, g3⟩ := allB_iff.1 h
    have h200 := spanB_len g2
    rw [spanB_iff] at g2
    exact l0_v l u a b e h (fun k hk => j7_v k l hl hk) (b - a + 1).toNat k 0 a 0 (0, 0, 0) (by omega) (by omega) (by omega) (by simp [calOf]) (by omega) (by omega) (by simp [cntOf]) (by omega) (QI.start u e a (by omega)) rfl
  · simp only [h, Bool.false_eq_true, if_false]
    exact j7_v k l hl (by omega)
theorem j0_v (k : Nat) (l0 l1 : List Int) (h0 : Bytes l0) (h1 : Bytes l1) (hk : 200000 ≤ k) : laws_FnJubileesCome.j0 k l0 l1 = some true := by
  obtain ⟨k, rfl⟩ : ∃ m, k = m + 4 := ⟨k - 4, by omega⟩
  obtain ⟨u, a, b, e, hd1, hu⟩ := drawCal_ok (k + 3) (by omega) l0 h0
  simp only [laws_FnJubileesCome.j0]
  rw [hd1]; simp only [Option.bind_some]
  rw [CalendarOf_v (k + 3) u a b e (by omega)]; simp only [Option.bind_some]
  rw [specCalendar_v (k + 3) u a b e (by omega) (by omega)]; simp only [Option.bind_some]
  simp only [laws_FnJubileesCome.j1]
  rw [Count_v (k + 2) u a b e (by omega)]; simp only [Option.bind_some]
  rw [specCount_v (k + 2) u a b e (by omega) (by omega)]; simp only [Option.bind_some]
  rw [Most_v (k + 2) u a b e (by omega)]; simp only [Option.bind_some]
  simp only [laws_FnJubileesCome.j2]
  rw [specMost_v (k + 1) u a b e (by omega) (by omega)]; simp only [Option.bind_some]
  rw [Quiet_v (k + 1) u a b e (by omega)]; simp only [Option.bind_some]
  rw [specQuiet_v (k + 1) u a b e (by omega) (by omega)]; simp only [Option.bind_some]
  simp only [laws_FnJubileesCome.j3]
  have hrows : laws_qRows.f k (if allB u a b e = true then (calOf u a b e, true) else ([], false)).1 (if allB u a b e = true then (calOf u a b e, true) else ([], false)).1 = some true := by
    by_cases h : allB u a b e = true
    · simp only [h, if_true]
      obtain ⟨g1, g2, g3⟩ := allB_iff.1 h
      have := calOf_length (xs := u) (e := e) g2
      exact qRows_self k _ (fun r hr => (calL_rows u e (Good.of g1 g3) _ a r hr).2) (by omega) (by omega)
    · simp only [h, if_false, Bool.false_eq_true]
      exact qRows_self k [] (by simp) (by simp; omega) (by simp)
  rw [hrows]; simp only [Option.bind_some]
  have hfin := j1_v k l1 u a b e h1 (by omega)
  have hsb : spec_AreBirths.f k u = some (goodB u) := by unfold spec_AreBirths.f; rw [roBorn_v k u (by omega) (by omega)]; rfl
  rw [AreBirths_v, hsb]; simp only [Option.bind_some]
  simp only [bne_self_eq_false, Bool.false_eq_true, if_false, if_true]
  by_cases h : allB u a b e = true
  · simp only [h, if_true, bne_self_eq_false, Bool.false_eq_true, if_false] at hfin ⊢
    obtain ⟨g1, g2, g3⟩ := allB_iff.1 h
    have h200 := spanB_len g2
    rw [spanB_iff] at g2
    rw [w64 (x := b - a) (by omega) (by omega), w64 (by omega) (by omega)]
    have e1 : (quietR u a b e).2.2 = decide (((calOf u a b e).length : Int) < b - a + 1) := by
      obtain ⟨q1, q2⟩ := quiet_none u e (b - a + 1).toNat a (0, 0, 0) (by simp) (by simp)
      have hcl := calL_length u e (b - a + 1).toNat a
      unfold quietR
      rw [if_pos h]
      unfold quietF
      by_cases hc : (calL u e (b - a + 1).toNat a).length < (b - a + 1).toNat
      · have := q1 hc
        rw [if_neg (by unfold quietOf; omega), decide_eq_true (by unfold calOf; omega)]
      · have this : (quietOf u a b e).2.1 = 0 := q2 (by omega) rfl
        rw [if_pos this, decide_eq_false (by unfold calOf; omega)]
    rw [if_neg (by rw [e1]; simp), g1]
    simp only [if_true]
    exact hfin
  · simp only [h, if_false, Bool.false_eq_true, bne_self_eq_false] at hfin ⊢
    have e1 : (quietR u a b e).2.2 = false := by simp [quietR, h]
    rw [if_neg (by rw [e1]; simp)]
    exact hfin
theorem bytes_of {l : List Int} (h : ∀ x ∈ l, (Lit.int .u8 x).wf = true) : Bytes l := by
  intro x hx
  have := h x hx
  simp [Lit.wf, IntKind.min, IntKind.max, IntKind.signed, IntKind.bits] at this
  exact this
theorem law_v (l0 l1 : List Int) (h0 : Bytes l0) (h1 : Bytes l1) : ∃ k, laws_FnJubileesCome.f k l0 l1 = some true := by
  refine ⟨300000, ?_⟩
  unfold laws_FnJubileesCome.f laws_big.f
  by_cases c : (l0.length : Int) > 1048576
  · rw [if_pos c]; simp
  · rw [if_neg c]
    simp only [Option.bind_some]
    split
    · rfl
    · exact j0_v 300000 l0 l1 h0 h1 (by omega)
end Go.Proofs.Ytiacjmaofdimgaa.PFnJubileesCome
