/- The law's second half: the next one, the oldest, those together, anniversaries. -/
import Derived.Test.YtiacjmaofdimgaaM6
import Derived.Test.YtiacjmaofdimgaaPFnJubileesComex9
namespace Go.Proofs.Ytiacjmaofdimgaa.PFnJubileesCome
open Go.RowKit Go.Proofs.YtiacjmaofdimgaaW.PrintWords Go.Proofs.YtiacjmaofdimgaaW.PrintLast
set_option linter.unusedVariables false
set_option linter.unusedSimpArgs false

theorem qHas_l0 (xs : List Int) (n : Int) : ∀ (rest : List Int) (i k : Nat), xs.drop i = rest → rest.length < k → xs.length < 1000000 → laws_qHas.l0 k n xs (xs.length : Int) (i : Int) = some (decide (n ∈ rest)) := by
  intro rest
  induction rest with
  | nil =>
    intro i k h hk hx
    obtain ⟨k, rfl⟩ : ∃ m, k = m + 1 := ⟨k - 1, by omega⟩
    have : xs.length ≤ i := by simpa using h
    simp only [laws_qHas.l0]
    rw [if_neg (by omega)]
    simp
  | cons b bs ih =>
    intro i k h hk hx
    obtain ⟨k, rfl⟩ : ∃ m, k = m + 1 := ⟨k - 1, by omega⟩
    obtain ⟨hl, hr, hd⟩ := rd_of_drop h
    simp only [laws_qHas.l0]
    simp at hk
    rw [if_pos (by omega), if_pos (by omega), if_pos (by omega), hr]
    by_cases e : b = n
    · rw [if_pos e]; simp [e]
    · rw [if_neg e, w_succ i (by omega), ih (i + 1) k hd (by omega) hx]
      simp [show ¬ n = b from fun h => e h.symm]
theorem qHas_v (k : Nat) (xs : List Int) (n : Int) (hk : xs.length < k) (hx : xs.length < 1000000) : laws_qHas.f k xs n = some (decide (n ∈ xs)) := by
  unfold laws_qHas.f
  exact qHas_l0 xs n xs 0 k (by simp) hk hx

theorem specAnn_v (k : Nat) (s a b e : Int) (hk : 300 ≤ k) : spec_Anniversaries.f k s a b e = some (annR s a b e) := by
  unfold spec_Anniversaries.f annR annB
  rw [l1In_v, roSpan_v, roEvery_v]
  obtain ⟨k, rfl⟩ : ∃ m, k = m + 1 := ⟨k - 1, by omega⟩
  simp only [Option.bind_some]
  have e1 : (decide (0 ≤ s) && decide (s ≤ 3000)) = inB 0 3000 s := rfl
  rw [e1]
  by_cases h1 : inB 0 3000 s = true
  · by_cases h2 : spanB a b = true
    · by_cases h3 : inB 1 100 e = true
      · simp only [h1, h2, h3, if_true, Bool.and_self, Bool.not_true, spec_Anniversaries.j0]
        rw [if_neg (by decide)]
        rw [inB_iff] at h1 h3
        rw [spanB_iff] at h2
        have := specAnn_l0 s e b h3.1 h1 (b - a + 1).toNat k a [] (by omega) (by omega) (by omega) (by omega) (by simp; omega)
        rw [this]; simp
      · simp only [Bool.not_eq_true] at h3; simp [h1, h2, h3, spec_Anniversaries.j0]
    · simp only [Bool.not_eq_true] at h2; simp [h1, h2, spec_Anniversaries.j0]
  · simp only [Bool.not_eq_true] at h1; simp [h1, spec_Anniversaries.j0]

/-! ### anniversaries -/
theorem l6_v (s a b e : Int) (h : annB s a b e = true) : ∀ (d k : Nat) (y : Int), a ≤ y → y + d = b + 1 → d + 300 < k → laws_FnJubileesCome.l6 k s b e (annL s e (b - a + 1).toNat a) y = some true := by
  obtain ⟨h1, h2, h3⟩ := annB_iff.1 h
  rw [inB_iff] at h1 h3
  have hl := annL_length s e (b - a + 1).toNat a
  have h2' := spanB_len h2
  rw [spanB_iff] at h2
  intro d
  induction d with
  | zero =>
    intro k y h4 h5 hk
    obtain ⟨k, rfl⟩ : ∃ m, k = m + 2 := ⟨k - 2, by omega⟩
    simp only [laws_FnJubileesCome.l6, laws_FnJubileesCome.j28]
    rw [if_neg (by omega)]
  | succ d ih =>
    intro k y h4 h5 hk
    obtain ⟨k, rfl⟩ : ∃ m, k = m + 1 := ⟨k - 1, by omega⟩
    simp only [laws_FnJubileesCome.l6]
    rw [if_pos (by omega), qHas_v k _ y (by omega) (by omega)]
    simp only [Option.bind_some]
    have hm := annL_mem s e (b - a + 1).toNat a y
    rw [w64 (x := y + 1) (by omega) (by omega)]
    by_cases c : y > s
    · rw [if_pos c, if_neg (by omega), w64 (x := y - s) (by omega) (by omega)]
      have e2 : decide (y ∈ annL s e (b - a + 1).toNat a) = (Int.tmod (y - s) e == 0) := by
        by_cases c2 : (Int.tmod (y - s) e == 0) = true
        · rw [c2, decide_eq_true_eq, hm]; exact ⟨by omega, by omega, by simp only [annOk, Bool.and_eq_true, decide_eq_true_eq]; exact ⟨by omega, c2⟩⟩
        · rw [Bool.not_eq_true] at c2; rw [c2, decide_eq_false_iff_not, hm]; intro hh; have := hh.2.2; simp only [annOk, Bool.and_eq_true, decide_eq_true_eq] at this; rw [c2] at this; exact absurd this.2 (by decide)
      rw [e2, if_neg (by simp)]
      exact ih k (y + 1) (by omega) (by omega) (by omega)
    · rw [if_neg c]
      have e2 : decide (y ∈ annL s e (b - a + 1).toNat a) = false := by
        rw [decide_eq_false_iff_not, hm]; intro hh; have := hh.2.2; simp only [annOk, Bool.and_eq_true, decide_eq_true_eq] at this; omega
      rw [e2, if_neg (by simp)]
      exact ih k (y + 1) (by omega) (by omega) (by omega)
theorem j18_v (k : Nat) (s a b e : Int) (hk : 1000 ≤ k) : laws_FnJubileesCome.j26 k s a b e (annR s a b e).1 (annR s a b e).2 = some true := by
  obtain ⟨k, rfl⟩ : ∃ m, k = m + 2 := ⟨k - 2, by omega⟩
  simp only [laws_FnJubileesCome.j26]
  by_cases h : annB s a b e = true
  · rw [show annR s a b e = (annL s e (b - a + 1).toNat a, true) from by simp [annR, h]]
    simp only [if_true]
    have h2 := (annB_iff.1 h).2.1
    have h3 := spanB_len h2
    rw [spanB_iff] at h2
    exact l6_v s a b e h (b - a + 1).toNat (k + 1) a (by omega) (by omega) (by omega)
  · rw [show annR s a b e = ([], false) from by simp [annR, h]]
    simp [laws_FnJubileesCome.j28]
/-! ### together -/
theorem l5_v (v : List Int) (m s a b e : Int) (A : List Int) (B : Bool) (list : List Int) (hv : goodB v = true) (hm : inB 1 100 m = true) (hlist : list.length ≤ 3100) (hz : ∀ z ∈ list, 0 ≤ z ∧ z ≤ 3000 ∧ (jub v z m).length = v.length)
    (hend : ∀ k, 1000 ≤ k → laws_FnJubileesCome.j26 k s a b e A B = some true) : ∀ (rest : List Int) (i k : Nat), list.drop i = rest → rest.length + 1000 < k →
    laws_FnJubileesCome.l5 k v m s a b e A B list (list.length : Int) (i : Int) = some true := by
  intro rest
  induction rest with
  | nil =>
    intro i k h hk
    obtain ⟨k, rfl⟩ : ∃ m, k = m + 1 := ⟨k - 1, by omega⟩
    have : list.length ≤ i := by simpa using h
    simp only [laws_FnJubileesCome.l5]
    rw [if_neg (by omega)]
    exact hend k (by simp at hk; omega)
  | cons c cs ih =>
    intro i k h hk
    obtain ⟨k, rfl⟩ : ∃ m, k = m + 1 := ⟨k - 1, by omega⟩
    obtain ⟨hl, hr, hd⟩ := rd_of_drop h
    have hc := hz c (by rw [← List.take_append_drop i list, h]; simp)
    simp at hk
    simp only [laws_FnJubileesCome.l5]
    rw [if_pos (by omega), if_pos (by omega), if_pos (by omega), hr, JubileesIn_v k v c m (by omega), if_pos (inR_iff.2 ⟨hv, inB_iff.2 ⟨hc.1, hc.2.1⟩, hm⟩)]
    simp only [Option.bind_some, if_true]
    rw [if_pos (by omega), w_succ i (by omega)]
    exact ih (i + 1) k hd (by omega)
theorem j16_v (k : Nat) (v : List Int) (m s a b e : Int) (hk : 10000 ≤ k) : laws_FnJubileesCome.j24 k v m (togR v m).1 (togR v m).2 s a b e (annR s a b e).1 (annR s a b e).2 = some true := by
  obtain ⟨k, rfl⟩ : ∃ m, k = m + 1 := ⟨k - 1, by omega⟩
  simp only [laws_FnJubileesCome.j24]
  by_cases h : goodB v = true ∧ inB 1 100 m = true
  · rw [show togR v m = (togL v m 3001 0, true) from by simp [togR, h]]
    obtain ⟨h1, h2, h3⟩ := togL_says v m 3001 0
    simp only [if_true]
    rw [qRises_v k _ h1 (by omega) (by omega)]
    simp only [Option.bind_some, if_true]
    have := l5_v v m s a b e (annR s a b e).1 (annR s a b e).2 (togL v m 3001 0) h.1 h.2 (by omega) (fun z hz => by have := h3 z hz; exact ⟨by omega, by omega, this.2.2⟩) (fun k hk => j18_v k s a b e hk) (togL v m 3001 0) 0 k (by simp) (by omega)
    exact this
  · rw [show togR v m = ([], false) from by unfold togR; rw [if_neg h]]
    simp only [Bool.false_eq_true, if_false]
    exact j18_v k s a b e (by omega)
/-! ### the oldest -/
theorem l4_v (u : List Int) (y e best age : Int) (v : List Int) (m : Int) (T : List Int) (TB : Bool) (s a b f : Int) (A : List Int) (B : Bool) (list : List Int) (hu : ∀ x ∈ u, 0 ≤ x ∧ x ≤ 2900) (hy : 0 ≤ y ∧ y ≤ 3000) (hlist : list.length ≤ 100)
    (hz : ∀ i ∈ list, 0 ≤ i ∧ i < u.length ∧ y - rd u i ≤ age ∧ (y - rd u i = age → best ≤ i))
    (hend : ∀ k, 10000 ≤ k → laws_FnJubileesCome.j24 k v m T TB s a b f A B = some true) : ∀ (rest : List Int) (i k : Nat), list.drop i = rest → rest.length + 10000 < k →
    laws_FnJubileesCome.l4 k u y best age v m T TB s a b f A B list (list.length : Int) (i : Int) = some true := by
  intro rest
  induction rest with
  | nil =>
    intro i k h hk
    obtain ⟨k, rfl⟩ : ∃ m, k = m + 1 := ⟨k - 1, by omega⟩
    have : list.length ≤ i := by simpa using h
    simp only [laws_FnJubileesCome.l4]
    rw [if_neg (by omega)]
    exact hend k (by simp at hk; omega)
  | cons c cs ih =>
    intro i k h hk
    obtain ⟨k, rfl⟩ : ∃ m, k = m + 1 := ⟨k - 1, by omega⟩
    obtain ⟨hl, hr, hd⟩ := rd_of_drop h
    obtain ⟨c0, c1, c2, c3⟩ := hz c (by rw [← List.take_append_drop i list, h]; simp)
    have hcr := rd_range hu c c0 c1
    simp at hk
    simp only [laws_FnJubileesCome.l4]
    rw [if_pos (by omega), if_pos (by omega), if_pos (by omega), hr, if_pos c0, if_pos c1, w64 (x := y - rd u c) (by omega) (by omega), if_neg (by omega), w_succ i (by omega)]
    by_cases q : y - rd u c = age
    · rw [if_pos q, if_neg (by have := c3 q; omega)]; exact ih (i + 1) k hd (by omega)
    · rw [if_neg q]; exact ih (i + 1) k hd (by omega)
theorem j13_v (k : Nat) (u : List Int) (y e : Int) (v : List Int) (m s a b f : Int) (hk : 11000 ≤ k) :
    laws_FnJubileesCome.j21 k u y (if inR u y e = true then (jub u y e, true) else ([], false)).1 (oldR u y e).1 (oldR u y e).2.1 (oldR u y e).2.2 v m (togR v m).1 (togR v m).2 s a b f (annR s a b f).1 (annR s a b f).2 = some true := by
  obtain ⟨k, rfl⟩ : ∃ m, k = m + 2 := ⟨k - 2, by omega⟩
  simp only [laws_FnJubileesCome.j21]
  by_cases h : inR u y e = true
  · obtain ⟨h1, h2, h3⟩ := inR_iff.1 h
    have g := Good.of h1 h3
    have hj := g.jlen y
    rw [inB_iff] at h2
    simp only [h, if_true]
    by_cases hp : 0 < (jub u y e).length
    · rw [show oldR u y e = (oldOf u y e, y - rd u (oldOf u y e), true) from by simp [oldR, h, hp]]
      simp only [if_true]
      obtain ⟨ha, hb⟩ := old_says hp
      obtain ⟨r0, r1⟩ := jub_range u y e _ ha
      have hr := rd_range g.all _ r0 r1
      rw [qHas_v (k + 1) _ _ (by omega) (by omega), decide_eq_true ha]
      simp only [Option.bind_some, if_true]
      rw [if_pos r0, if_pos r1, w64 (by omega) (by omega)]
      simp only [laws_FnJubileesCome.j22]
      rw [if_neg (by simp)]
      exact l4_v u y e _ _ v m _ _ s a b f _ _ (jub u y e) g.all h2 (by omega) (fun i hi => by
        obtain ⟨i0, i1⟩ := jub_range u y e i hi
        obtain ⟨i2, i3⟩ := hb i hi
        exact ⟨i0, i1, by omega, fun q => i3 (by omega)⟩) (fun k hk => j16_v k v m s a b f hk) (jub u y e) 0 k (by simp) (by omega)
    · rw [show oldR u y e = (0, 0, false) from by simp [oldR, h, hp]]
      simp only [Bool.false_eq_true, if_false]
      exact j16_v (k + 1) v m s a b f (by omega)
  · simp only [Bool.not_eq_true] at h
    rw [show oldR u y e = (0, 0, false) from by simp [oldR, h]]
    simp only [h, Bool.false_eq_true, if_false]
    exact j16_v (k + 1) v m s a b f (by omega)
/-! ### the next one -/
theorem l3_v (u : List Int) (y e nx : Int) (W : List Int) (x49 x50 : Int) (x51 : Bool) (v : List Int) (m : Int) (T : List Int) (TB : Bool) (s a b f : Int) (A : List Int) (B : Bool) (h : inR u y e = true) (hn : nx ≤ 3000) (hnp : 0 < (jub u nx e).length) (hno : ∀ z, y + 1 ≤ z → z < nx → (jub u z e).length = 0)
    (hend : ∀ k, 11000 ≤ k → laws_FnJubileesCome.j21 k u y W x49 x50 x51 v m T TB s a b f A B = some true) : ∀ (d k : Nat) (z : Int), y + 1 ≤ z → z + d = nx + 1 → 2 * d + 11100 < k →
    laws_FnJubileesCome.l3 k u y e nx W x49 x50 x51 v m T TB s a b f A B z = some true := by
  obtain ⟨h1, h2, h3⟩ := inR_iff.1 h
  have g := Good.of h1 h3
  rw [inB_iff] at h2
  intro d
  induction d with
  | zero =>
    intro k z hz1 hz2 hk
    obtain ⟨k, rfl⟩ : ∃ m, k = m + 2 := ⟨k - 2, by omega⟩
    simp only [laws_FnJubileesCome.l3, laws_FnJubileesCome.j20]
    rw [if_neg (by omega)]
    simp only [Bool.false_eq_true, if_false]
    exact hend k (by omega)
  | succ d ih =>
    intro k z hz1 hz2 hk
    obtain ⟨k, rfl⟩ : ∃ m, k = m + 2 := ⟨k - 2, by omega⟩
    simp only [laws_FnJubileesCome.l3, laws_FnJubileesCome.j20]
    rw [if_pos (by omega), w64 (x := y + 60) (by omega) (by omega)]
    by_cases c : z < y + 60
    · rw [decide_eq_true c]
      simp only [if_true]
      rw [JubileesIn_v k u z e (by omega), if_pos (inR_iff.2 ⟨h1, inB_iff.2 ⟨by omega, by omega⟩, h3⟩)]
      simp only [Option.bind_some, if_true]
      have e1 : decide (((jub u z e).length : Int) > 0) = (z == nx) := by
        by_cases q : z = nx
        · subst q; simp; exact hnp
        · have := hno z hz1 (by omega)
          simp [this, q]
      rw [e1, if_neg (by simp), w64 (x := z + 1) (by omega) (by omega)]
      exact ih k (z + 1) (by omega) (by omega) (by omega)
    · rw [decide_eq_false c]
      simp only [Bool.false_eq_true, if_false]
      exact hend k (by omega)
theorem j10_v (k : Nat) (u : List Int) (y e : Int) (v : List Int) (m s a b f : Int) (hk : 30000 ≤ k) :
    laws_FnJubileesCome.j18 k u y e (nextR u y e).1 (nextR u y e).2 (if inR u y e = true then (jub u y e, true) else ([], false)).1 (oldR u y e).1 (oldR u y e).2.1 (oldR u y e).2.2 v m (togR v m).1 (togR v m).2 s a b f (annR s a b f).1 (annR s a b f).2 = some true := by
  obtain ⟨k, rfl⟩ : ∃ m, k = m + 1 := ⟨k - 1, by omega⟩
  simp only [laws_FnJubileesCome.j18]
  by_cases hq : (nextR u y e).2 = true
  · rw [if_pos hq]
    have h : inR u y e = true := by
      by_cases h : inR u y e = true
      · exact h
      · simp [nextR, h] at hq
    have h2 := (inR_iff.1 h).2.1
    rw [inB_iff] at h2
    have en : nextR u y e = nextL u e (3000 - y).toNat (y + 1) := by simp [nextR, h]
    rw [en] at hq
    obtain ⟨n1, n2, n3, n4⟩ := nextL_says u e _ _ hq
    rw [en, if_neg (by omega), w64 (by omega) (by omega)]
    exact l3_v u y e _ _ _ _ _ v m _ _ s a b f _ _ h (by omega) n3 n4 (fun k hk => j13_v k u y e v m s a b f hk) ((nextL u e (3000 - y).toNat (y + 1)).1 - y).toNat k (y + 1) (by omega) (by omega) (by omega)
  · rw [if_neg hq]
    exact j13_v k u y e v m s a b f (by omega)
/-! ### who has a jubilee -/
theorem l2_v (u : List Int) (y e x41 : Int) (x42 : Bool) (x49 x50 : Int) (x51 : Bool) (v : List Int) (m : Int) (T : List Int) (TB : Bool) (s a b f : Int) (A : List Int) (B : Bool) (h : inR u y e = true)
    (hend : ∀ k, 30000 ≤ k → laws_FnJubileesCome.j18 k u y e x41 x42 (jub u y e) x49 x50 x51 v m T TB s a b f A B = some true) : ∀ (rest : List Int) (i k : Nat), u.drop i = rest → rest.length + 30000 < k →
    laws_FnJubileesCome.l2 k u y e x41 x42 (jub u y e) x49 x50 x51 v m T TB s a b f A B u (u.length : Int) (i : Int) = some true := by
  obtain ⟨h1, h2, h3⟩ := inR_iff.1 h
  have g := Good.of h1 h3
  have hj := g.jlen y
  have gl := g.len
  have ge := g.ev
  rw [inB_iff] at h2
  intro rest
  induction rest with
  | nil =>
    intro i k h hk
    obtain ⟨k, rfl⟩ : ∃ m, k = m + 1 := ⟨k - 1, by omega⟩
    have : u.length ≤ i := by simpa using h
    simp only [laws_FnJubileesCome.l2]
    rw [if_neg (by omega)]
    exact hend k (by simp at hk; omega)
  | cons c cs ih =>
    intro i k h hk
    obtain ⟨k, rfl⟩ : ∃ m, k = m + 1 := ⟨k - 1, by omega⟩
    obtain ⟨hl, hr, hd⟩ := rd_of_drop h
    have hc := g.all c (by rw [← List.take_append_drop i u, h]; simp)
    simp at hk
    simp only [laws_FnJubileesCome.l2]
    rw [if_pos (by omega), if_pos (by omega), if_pos (by omega), qHas_v k _ _ (by omega) (by omega), hr, w64 (x := y - c) (by omega) (by omega), w_succ i (by omega)]
    simp only [Option.bind_some]
    have hm := jub_mem u y e i
    have hgd : u.getD i 0 = c := by simpa [rd] using hr
    rw [hgd] at hm
    have e1 : decide ((i : Int) ∈ jub u y e) = jubOk y e c := by
      by_cases q : jubOk y e c = true
      · rw [q, decide_eq_true_eq, hm]; exact ⟨hl, q⟩
      · have q2 := q; rw [Bool.not_eq_true] at q2; rw [q2, decide_eq_false_iff_not, hm]; exact fun z => q z.2
    rw [e1]
    by_cases c1 : y - c > 0
    · rw [if_pos c1]
      by_cases c2 : y - c ≤ 120
      · rw [if_pos c2, if_neg (by omega)]
        have e2 : jubOk y e c = ((y - c).tmod e == 0) := by simp [jubOk, show 0 < y - c from c1, c2, show c < y by omega]
        rw [e2, if_neg (by simp)]
        exact ih (i + 1) k hd (by omega)
      · rw [if_neg c2]
        have e2 : jubOk y e c = false := by rw [Bool.eq_false_iff, ne_eq, jubOk_iff]; omega
        rw [e2, if_neg (by simp)]
        exact ih (i + 1) k hd (by omega)
    · rw [if_neg c1]
      have e2 : jubOk y e c = false := by rw [Bool.eq_false_iff, ne_eq, jubOk_iff]; omega
      rw [e2, if_neg (by simp)]
      exact ih (i + 1) k hd (by omega)
theorem j8_v (k : Nat) (u : List Int) (y e : Int) (v : List Int) (m s a b f : Int) (hk : 40000 ≤ k) :
    laws_FnJubileesCome.j16 k u y e (nextR u y e).1 (nextR u y e).2 (if inR u y e = true then (jub u y e, true) else ([], false)).1 (if inR u y e = true then (jub u y e, true) else ([], false)).2 (oldR u y e).1 (oldR u y e).2.1 (oldR u y e).2.2 v m (togR v m).1 (togR v m).2 s a b f (annR s a b f).1 (annR s a b f).2 = some true := by
  obtain ⟨k, rfl⟩ : ∃ m, k = m + 1 := ⟨k - 1, by omega⟩
  simp only [laws_FnJubileesCome.j16]
  have hend := fun k hk => j10_v k u y e v m s a b f hk
  by_cases h : inR u y e = true
  · simp only [h, if_true] at hend ⊢
    have gl := (goodB_iff.1 (inR_iff.1 h).1).2.1
    exact l2_v u y e _ _ _ _ _ v m _ _ s a b f _ _ h hend u 0 k (by simp) (by omega)
  · simp only [h, if_false, Bool.false_eq_true] at hend ⊢
    exact hend k (by omega)
theorem j7_v (k : Nat) (l : List Int) (hl : Bytes l) (hk : 50000 ≤ k) : laws_FnJubileesCome.j10 k l = some true := by
  obtain ⟨k, rfl⟩ : ∃ m, k = m + 6 := ⟨k - 6, by omega⟩
  obtain ⟨u, y, e, hd1, hu⟩ := drawNext_ok (k + 5) (by omega) l hl
  obtain ⟨v, m, hd2, hv⟩ := drawTog_ok (k + 3) (by omega) l hl
  obtain ⟨s, a, b, f, hd3⟩ := drawAnn_ok l hl
  simp only [laws_FnJubileesCome.j10]
  rw [hd1]; simp only [Option.bind_some]
  rw [Next_v (k + 5) u y e (by omega)]; simp only [Option.bind_some]
  rw [specNext_v (k + 5) u y e (by omega) (by omega)]; simp only [Option.bind_some]
  simp only [laws_FnJubileesCome.j11]
  rw [JubileesIn_v (k + 4) u y e (by omega)]; simp only [Option.bind_some]
  rw [specJubileesIn_v (k + 4) u y e (by omega) (by omega)]; simp only [Option.bind_some]
  rw [Oldest_v (k + 4) u y e (by omega)]; simp only [Option.bind_some]
  simp only [laws_FnJubileesCome.j12]
  rw [specOldest_v (k + 3) u y e (by omega) (by omega)]; simp only [Option.bind_some]
  rw [hd2]; simp only [Option.bind_some]
  rw [Together_v (k + 3) v m (by omega)]; simp only [Option.bind_some]
  simp only [laws_FnJubileesCome.j13]
  rw [specTogether_v (k + 2) v m (by omega) (by omega)]; simp only [Option.bind_some]
  rw [hd3]; simp only [Option.bind_some]
  rw [Ann_v (k + 2) s a b f (by omega)]; simp only [Option.bind_some]
  simp only [laws_FnJubileesCome.j14]
  rw [specAnn_v (k + 1) s a b f (by omega)]; simp only [Option.bind_some]
  simp only [laws_FnJubileesCome.j15]
  have hjl : (if inR u y e = true then (jub u y e, true) else ([], false)).1.length < 500 := by
    by_cases h : inR u y e = true
    · rw [if_pos h]; have := jub_length u y e; simp; omega
    · rw [if_neg h]; simp
  have htl : (togR v m).1.length < 5000 := by
    unfold togR
    split
    · have := (togL_says v m 3001 0).2.1; simp; omega
    · simp
  have hal : (annR s a b f).1.length < 5000 := by
    unfold annR
    split
    · rename_i h
      have := annL_length s f (b - a + 1).toNat a
      have := spanB_len (annB_iff.1 h).2.1
      simp; omega
    · simp
  rw [qSame_self k _ (by omega) (by omega)]; simp only [Option.bind_some]
  rw [qSame_self k _ (by omega) (by omega)]; simp only [Option.bind_some]
  rw [qSame_self k _ (by omega) (by omega)]; simp only [Option.bind_some]
  have hfin := j8_v k u y e v m s a b f (by omega)
  simp only [bne_self_eq_false, Bool.false_eq_true, if_false, if_true]
  by_cases h : inR u y e = true
  · simp only [h, if_true] at hfin ⊢
    have e1 : (oldR u y e).2.2 = decide (((jub u y e).length : Int) > 0) := by
      simp only [oldR, h, if_true]
      by_cases hp : 0 < (jub u y e).length
      · rw [if_pos hp, decide_eq_true (by omega)]
      · rw [if_neg hp, decide_eq_false (by omega)]
    rw [if_neg (by rw [e1]; simp)]
    split <;> exact hfin
  · simp only [h, if_false, Bool.false_eq_true] at hfin ⊢
    have e1 : (oldR u y e).2.2 = false := by simp [oldR, h]
    have e2 : (nextR u y e).2 = false := by simp [nextR, h]
    rw [if_neg (by rw [e1]; simp), if_neg (by rw [e2]; simp)]
    exact hfin
end Go.Proofs.Ytiacjmaofdimgaa.PFnJubileesCome
