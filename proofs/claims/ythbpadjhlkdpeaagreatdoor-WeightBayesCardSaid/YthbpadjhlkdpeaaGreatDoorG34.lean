/- The parts Bayes, LawBayes0 of a proof, put together by program (merge.py). -/
import Derived.Test.YthbpadjhlkdpeaaGreatDoorG21
import Derived.Test.YthbpadjhlkdpeaaGreatDoorG32
import Derived.BigQuiet
/- Updating twice, in plain numbers. -/
namespace Go.Proofs.YthbpadjhlkdpeaaGreatDoor
open Go.RowKit Go.Shelf

theorem div_pos' {a b : Rat} (ha : 0 < a) (hb : 0 < b) : 0 < a / b := by rw [Rat.div_def]; exact Rat.mul_pos ha (Rat.inv_pos.2 hb)
abbrev mulL (P O : List Rat) : List Rat := List.zipWith (· * ·) P O
theorem small_mul {m j : Nat} : ∀ {P O : List Rat}, Small m P → Small j O → Small (m + j) (mulL P O)
  | [], _, _, _ => fun q hq => by simp [mulL] at hq
  | _ :: _, [], _, _ => fun q hq => by simp [mulL] at hq
  | p :: P, o :: O, hP, hO => fun q hq => by
    obtain ⟨p0, pz⟩ := hP.head
    obtain ⟨o0, oz⟩ := hO.head
    rcases List.mem_cons.1 (show q ∈ (p * o) :: mulL P O from hq) with rfl | hq
    · exact ⟨Rat.mul_nonneg p0 o0, Sz.mul p0 o0 pz oz⟩
    · exact small_mul hP.tail hO.tail q hq
theorem small_div {m j : Nat} {z : Rat} {L : List Rat} (h : Small m L) (hz : 0 < z) (hj : Sz j z) : Small (m + j) (L.map (· / z)) := fun q hq => by
  obtain ⟨r, hr, rfl⟩ := List.mem_map.1 hq
  obtain ⟨h1, h2⟩ := h r hr
  exact ⟨div_nonneg h1 (by grind), Sz.div h1 hz h2 hj⟩
theorem prodA_fits {m j : Nat} (h0 : 0 < m + j) (h : m + j ≤ 600) : ∀ (P O : List Rat), Small m P → Small j O → P.length = O.length → prodA P O = some (mulL P O)
  | [], [], _, _, _ => rfl
  | [], _ :: _, _, _, hl => by simp at hl
  | _ :: _, [], _, _, hl => by simp at hl
  | p :: P, o :: O, hP, hO, hl => by
    obtain ⟨p0, pz⟩ := hP.head
    obtain ⟨o0, oz⟩ := hO.head
    unfold prodA
    rw [if_pos ((Sz.mul p0 o0 pz oz).fits h0 h), prodA_fits h0 h P O hP.tail hO.tail (by simpa using hl)]
    rfl
theorem mulL_div {x : Rat} : ∀ (L T : List Rat), mulL (L.map (· / x)) T = (mulL L T).map (· / x)
  | [], _ => by simp [mulL]
  | _ :: _, [] => by simp [mulL]
  | l :: L, t :: T => by
    have e : l / x * t = l * t / x := by grind
    have ih := mulL_div (x := x) L T
    simp only [mulL, List.map_cons, List.zipWith_cons_cons] at ih ⊢
    rw [e, ih]
theorem map_div_div {x z : Rat} (hx : 0 < x) (hz : 0 < z) (L : List Rat) : (L.map (· / x)).map (· / (z / x)) = L.map (· / z) := by
  rw [List.map_map]
  refine List.map_congr_left fun q _ => ?_
  show q / x / (z / x) = q / z
  grind
theorem sumR_ge : ∀ (qs : List Rat) (a : Rat), (∀ q ∈ qs, 0 ≤ q) → a ≤ sumR a qs
  | [], a, _ => by show a ≤ a; grind
  | q :: qs, a, h => by
    have h1 := h q (by simp)
    have h2 := sumR_ge qs (a + q) fun r hr => h r (List.mem_cons_of_mem _ hr)
    show a ≤ sumR (a + q) qs
    grind
theorem sumR_zero : ∀ (qs : List Rat) (a : Rat), 0 ≤ a → (∀ q ∈ qs, 0 ≤ q) → sumR a qs = 0 → ∀ q ∈ qs, q = 0
  | [], _, _, _, _ => fun q hq => by cases hq
  | q :: qs, a, h0, h, hz => fun r hr => by
    have h1 := h q (by simp)
    have h2 := sumR_ge qs (a + q) fun r hr => h r (List.mem_cons_of_mem _ hr)
    have hz' : sumR (a + q) qs = 0 := hz
    rcases List.mem_cons.1 hr with rfl | hr
    · grind
    · exact sumR_zero qs (a + q) (by grind) (fun r hr => h r (List.mem_cons_of_mem _ hr)) hz' r hr
theorem sumR_none : ∀ (qs : List Rat) (a : Rat), (∀ q ∈ qs, q = 0) → sumR a qs = a
  | [], _, _ => rfl
  | q :: qs, a, h => by
    have h1 := h q (by simp)
    show sumR (a + q) qs = a
    rw [sumR_none qs (a + q) fun r hr => h r (List.mem_cons_of_mem _ hr)]
    grind
/-- No weight is left by the first evidence: none is left by both. -/
theorem mulL_none : ∀ (L T : List Rat), (∀ q ∈ L, q = 0) → ∀ q ∈ mulL L T, q = 0
  | [], _, _ => fun q hq => by simp [mulL] at hq
  | _ :: _, [], _ => fun q hq => by simp [mulL] at hq
  | l :: L, t :: T, h => fun q hq => by
    have h1 := h l (by simp)
    rcases List.mem_cons.1 (show q ∈ (l * t) :: mulL L T from hq) with rfl | hq
    · rw [h1, Rat.zero_mul]
    · exact mulL_none L T (fun r hr => h r (List.mem_cons_of_mem _ hr)) q hq
theorem mulL_assoc : ∀ (P O T : List Rat), mulL (mulL P O) T = mulL P (mulL O T)
  | [], _, _ => by simp [mulL]
  | _ :: _, [], _ => by simp [mulL]
  | _ :: _, _ :: _, [] => by simp [mulL]
  | p :: P, o :: O, t :: T => by
    have ih := mulL_assoc P O T
    simp only [mulL, List.zipWith_cons_cons] at ih ⊢
    rw [ih, Rat.mul_assoc]
theorem mulL_swap : ∀ (O T : List Rat), mulL O T = mulL T O
  | [], T => by cases T <;> simp [mulL]
  | _ :: _, [] => by simp [mulL]
  | o :: O, t :: T => by
    have ih := mulL_swap O T
    simp only [mulL, List.zipWith_cons_cons] at ih ⊢
    rw [ih, Rat.mul_comm]

/-- An update with small fractions. -/
theorem updA_small {m j n : Nat} {P O : List Rat} (hP : Small m P) (hO : Small j O) (hn : P.length = n) (hl : P.length = O.length) (h0 : 0 < m + j) (hk : 1 + n * (m + j + 1) + (m + j) ≤ 600) :
    (sumR 0 (mulL P O) = 0 ∧ updA P O = .error 7) ∨ (0 < sumR 0 (mulL P O) ∧ updA P O = .ok ((mulL P O).map (· / sumR 0 (mulL P O)), sumR 0 (mulL P O))) := by
  have hs := small_mul hP hO
  have hln : (mulL P O).length = n := by simp [mulL, ← hl, hn]
  have hp := prodA_fits h0 (by omega) P O hP hO hl
  obtain ⟨h1, h2, h3⟩ := hs.sum (by rw [hln]; omega)
  by_cases hz : sumR 0 (mulL P O) = 0
  · exact .inl ⟨hz, updA_z hp h1 hz⟩
  · have hpz : 0 < sumR 0 (mulL P O) := Rat.lt_of_le_of_ne h2 (Ne.symm hz)
    exact .inr ⟨hpz, updA_ok hp h1 hz (shareA_small hpz h3 h0 (by rw [hln]; omega) _ hs)⟩
/-- A second update. -/
theorem updA_after {m j k n : Nat} {x : Rat} {L T : List Rat} (hL : Small m L) (hT : Small j T) (hx : 0 < x) (hk : Sz k x) (hn : L.length = n) (hl : L.length = T.length) (h0 : 0 < m)
    (h : m + k + j + (1 + n * (m + j + 1) + k) ≤ 600) :
    (sumR 0 (mulL L T) = 0 ∧ updA (L.map (· / x)) T = .error 7) ∨ (0 < sumR 0 (mulL L T) ∧ updA (L.map (· / x)) T = .ok ((mulL L T).map (· / sumR 0 (mulL L T)), sumR 0 (mulL L T) / x)) := by
  have hs := small_mul hL hT
  have hln : (mulL L T).length = n := by simp [mulL, ← hl, hn]
  have hp := prodA_fits (m := m + k) (j := j) (by omega) (by omega) (L.map (· / x)) T (small_div hL hx hk) hT (by simpa using hl)
  rw [mulL_div] at hp
  obtain ⟨h1, h2, h3⟩ := hs.sum (by rw [hln]; omega)
  rw [hln] at h3
  have h4 := sumA_div hx hk (mulL L T) 0 1 (by decide) sz_zero hs (by rw [hln]; omega)
  have h5 : (0 : Rat) / x = 0 := by grind
  rw [h5] at h4
  by_cases hz : sumR 0 (mulL L T) = 0
  · refine .inl ⟨hz, updA_z hp h4 ?_⟩
    rw [hz]; exact h5
  · have hpz : 0 < sumR 0 (mulL L T) := Rat.lt_of_le_of_ne h2 (Ne.symm hz)
    have hq : 0 < sumR 0 (mulL L T) / x := div_pos' hpz hx
    have h6 := shareA_small (m := m + j + k) (j := 1 + n * (m + j + 1) + k) hq (Sz.div h2 hx h3 hk) (by omega) (by omega) _ (small_div hs hx hk)
    rw [map_div_div hx hpz] at h6
    exact .inr ⟨hpz, updA_ok hp h4 (fun h => by rw [h] at hq; exact absurd hq (by decide)) h6⟩
/-- Both pieces of evidence, in either order and at once. -/
theorem sum_later_zero {L T : List Rat} (hL : ∀ q ∈ L, 0 ≤ q) (h : sumR 0 L = 0) : sumR 0 (mulL L T) = 0 :=
  sumR_none _ _ (mulL_none L T (sumR_zero L 0 (by decide) hL h))
theorem mulL_turn (P O T : List Rat) : mulL (mulL P T) O = mulL (mulL P O) T := by rw [mulL_assoc, mulL_assoc, mulL_swap T O]
theorem Small.nonneg {m : Nat} {qs : List Rat} (h : Small m qs) : ∀ q ∈ qs, 0 ≤ q := fun q hq => (h q hq).1
/-- No weight is left by the first evidence. -/
theorem bayes_none {P O T : List Rat} {n : Nat} (hP : Small 12 P) (hO : Small 12 O) (hT : Small 12 T) (hn : P.length = n) (h1 : P.length = O.length) (h2 : P.length = T.length) (h6 : n ≤ 6) (hx : sumR 0 (mulL P O) = 0) :
    updA P O = .error 7 ∧ updA P (mulL O T) = .error 7 := by
  have hB := small_mul hO hT
  have hlb : P.length = (mulL O T).length := by simp [mulL, ← h1, ← h2]
  refine ⟨?_, ?_⟩
  · rcases updA_small hP hO hn h1 (by decide) (by omega) with ⟨_, h⟩ | ⟨h, _⟩
    · exact h
    · rw [hx] at h; exact absurd h (by decide)
  · have h3 : sumR 0 (mulL P (mulL O T)) = 0 := by rw [← mulL_assoc]; exact sum_later_zero (small_mul hP hO).nonneg hx
    rcases updA_small hP hB hn hlb (by decide) (by omega) with ⟨_, h⟩ | ⟨h, _⟩
    · exact h
    · rw [h3] at h; exact absurd h (by decide)
/-- What is left by the first evidence. -/
theorem bayes_one {P O : List Rat} {n : Nat} (hP : Small 12 P) (hO : Small 12 O) (hn : P.length = n) (h1 : P.length = O.length) (h6 : n ≤ 6) (hx : sumR 0 (mulL P O) ≠ 0) :
    0 < sumR 0 (mulL P O) ∧ Sz 151 (sumR 0 (mulL P O)) ∧ updA P O = .ok ((mulL P O).map (· / sumR 0 (mulL P O)), sumR 0 (mulL P O)) := by
  rcases updA_small hP hO hn h1 (by decide) (by omega) with ⟨h, _⟩ | ⟨h, h3⟩
  · exact absurd h hx
  · have hl : (mulL P O).length = n := by simp [mulL, ← h1, hn]
    exact ⟨h, ((small_mul hP hO).sum (by rw [hl]; omega)).2.2.mono (by rw [hl]; omega), h3⟩
/-- No weight is left by the second. -/
theorem bayes_later {P O T : List Rat} {n : Nat} (hP : Small 12 P) (hO : Small 12 O) (hT : Small 12 T) (hn : P.length = n) (h1 : P.length = O.length) (h2 : P.length = T.length) (h6 : n ≤ 6) (hx : sumR 0 (mulL P O) ≠ 0)
    (hz : sumR 0 (mulL (mulL P O) T) = 0) : updA P (mulL O T) = .error 7 ∧ updA ((mulL P O).map (· / sumR 0 (mulL P O))) T = .error 7 := by
  have hB := small_mul hO hT
  have hlb : P.length = (mulL O T).length := by simp [mulL, ← h1, ← h2]
  have hl : (mulL P O).length = n := by simp [mulL, ← h1, hn]
  obtain ⟨hx0, hxs, _⟩ := bayes_one hP hO hn h1 h6 hx
  refine ⟨?_, ?_⟩
  · rcases updA_small hP hB hn hlb (by decide) (by omega) with ⟨_, h⟩ | ⟨h, _⟩
    · exact h
    · rw [← mulL_assoc, hz] at h; exact absurd h (by decide)
  · rcases updA_after (small_mul hP hO) hT hx0 hxs hl (by omega) (by decide) (by omega) with ⟨_, h⟩ | ⟨h, _⟩
    · exact h
    · rw [hz] at h; exact absurd h (by decide)
/-- What is left by both. -/
theorem bayes_both {P O T : List Rat} {n : Nat} (hP : Small 12 P) (hO : Small 12 O) (hT : Small 12 T) (hn : P.length = n) (h1 : P.length = O.length) (h2 : P.length = T.length) (h6 : n ≤ 6) {z : Rat} (hzz : sumR 0 (mulL (mulL P O) T) = z) (hz : z ≠ 0) :
    0 < z ∧ Sz 223 z ∧ updA P (mulL O T) = .ok ((mulL (mulL P O) T).map (· / z), z) ∧ sumR 0 (mulL P O) ≠ 0 ∧
    updA ((mulL P O).map (· / sumR 0 (mulL P O))) T = .ok ((mulL (mulL P O) T).map (· / z), z / sumR 0 (mulL P O)) := by
  subst hzz
  have hB := small_mul hO hT
  have hlb : P.length = (mulL O T).length := by simp [mulL, ← h1, ← h2]
  have hl : (mulL P O).length = n := by simp [mulL, ← h1, hn]
  have hx : sumR 0 (mulL P O) ≠ 0 := fun h => hz (sum_later_zero (small_mul hP hO).nonneg h)
  obtain ⟨hx0, hxs, _⟩ := bayes_one hP hO hn h1 h6 hx
  have hs := small_mul (small_mul hP hO) hT
  have hll : (mulL (mulL P O) T).length = n := by simp [mulL, ← h1, ← h2, hn]
  obtain ⟨_, s2, s3⟩ := hs.sum (by rw [hll]; omega)
  refine ⟨Rat.lt_of_le_of_ne s2 (Ne.symm hz), s3.mono (by rw [hll]; omega), ?_, hx, ?_⟩
  · rcases updA_small hP hB hn hlb (by decide) (by omega) with ⟨h, _⟩ | ⟨_, h⟩
    · rw [← mulL_assoc] at h; exact absurd h hz
    · rw [← mulL_assoc] at h; exact h
  · rcases updA_after (small_mul hP hO) hT hx0 hxs hl (by omega) (by decide) (by omega) with ⟨h, _⟩ | ⟨_, h⟩
    · exact absurd h hz
    · exact h
end Go.Proofs.YthbpadjhlkdpeaaGreatDoor
/- WeightBayes: what the law answers before it updates. -/
namespace Go.Proofs.YthbpadjhlkdpeaaGreatDoor
open Go.RowKit Go.Shelf
set_option maxRecDepth 100000 in
set_option maxHeartbeats 4000000 in
theorem bayes_early {u v t : Value} {ps os qs : List PP} {w : World} (hu : PL w u ps) (hv : PL w v os) (ht : PL w t qs) (hT : Tabs w)
    (h : ¬ (ps.length ≤ 6 ∧ os.length = ps.length ∧ qs.length = ps.length ∧ shortB 12 ps = true ∧ shortB 12 os = true ∧ shortB 12 qs = true)) :
    Calls Tryz.prog 5 #[u, v, t] w (BoolPost w true) := by
  obtain ⟨p0, n, c0, rfl⟩ : ∃ p n c, u = .slice p n c := by obtain ⟨p, c, h, _⟩ := hu; exact ⟨_, _, _, h⟩
  obtain ⟨p1, n1, c1, rfl⟩ : ∃ p n c, v = .slice p n c := by obtain ⟨p, c, h, _⟩ := hv; exact ⟨_, _, _, h⟩
  obtain ⟨p2, n2, c2, rfl⟩ : ∃ p n c, t = .slice p n c := by obtain ⟨p, c, h, _⟩ := ht; exact ⟨_, _, _, h⟩
  obtain ⟨hn0, _, _⟩ := hu.len
  obtain ⟨hn1, _, _⟩ := hv.len
  obtain ⟨hn2, _, _⟩ := ht.len
  have HU := Lib.hid hu
  have HV := Lib.hid hv
  have HW := Lib.hid ht
  have HT := Lib.hid hT
  clear hT
  by_cases g : n ≤ 6
  rotate_left
  · have g6 : (6 : Int) < n := by omega
    have g6d : decide ((6 : Int) < n) = true := decide_eq_true g6
    clear h hn0 hn1 hn2 g hu hv ht
    go_enter Tryz.func5, Tryz.ntmps5
    go_wp2_with fail
    refine (alive_any _ HT.out).mono ?_
    rintro e w1 ⟨rfl, hb⟩
    have HB1 := Lib.hid hb
    clear hb
    go_wp2
    go_ret
    exact ⟨rfl, HB1.out⟩
  have g6 : ¬ (6 : Int) < n := by omega
  have g6d : decide ((6 : Int) < n) = false := decide_eq_false g6
  by_cases e1 : n1 = n
  rotate_left
  · have g1 : ((n1 : Int) != n) = true := by rw [bne_iff_ne]; omega
    clear h hn0 hn1 hn2 g hu hv ht e1
    go_enter Tryz.func5, Tryz.ntmps5
    go_wp2_with fail
    refine (alive_any _ HT.out).mono ?_
    rintro e w1 ⟨rfl, hb⟩
    have HB1 := Lib.hid hb
    clear hb
    go_wp2
    go_ret
    exact ⟨rfl, HB1.out⟩
  subst e1
  have g1 : ((n1 : Int) != n1) = false := by simp
  by_cases e2 : n2 = n1
  rotate_left
  · have g2 : ((n2 : Int) != n1) = true := by rw [bne_iff_ne]; omega
    clear h hn0 hn1 hn2 g hu hv ht e2
    go_enter Tryz.func5, Tryz.ntmps5
    go_wp2_with fail
    refine (alive_any _ HT.out).mono ?_
    rintro e w1 ⟨rfl, hb⟩
    have HB1 := Lib.hid hb
    clear hb
    go_wp2
    go_ret
    exact ⟨rfl, HB1.out⟩
  subst e2
  cases s0 : shortB 12 ps
  · have HS0 := Lib.hid s0
    clear h hn0 hn1 hn2 g hu hv ht s0
    go_enter Tryz.func5, Tryz.ntmps5
    go_wp2_with fail
    refine (alive_any _ HT.out).mono ?_
    rintro e w1 ⟨rfl, hb⟩
    have HB1 := Lib.hid hb
    clear hb
    go_wp2_with fail
    refine (short_any 12 (by decide) (HU.out.after HB1.out (Nat.le_refl _))).mono ?_
    rintro e w2 ⟨rfl, hb⟩
    rw [HS0.out]
    have HB2 := Lib.hid (HB1.out.trans (hb.mono HB1.out.size))
    clear hb HB1
    go_wp2
    go_ret
    exact ⟨rfl, HB2.out⟩
  cases s1 : shortB 12 os
  · have HS0 := Lib.hid s0
    have HS1 := Lib.hid s1
    clear h hn0 hn1 hn2 g hu hv ht s0 s1
    go_enter Tryz.func5, Tryz.ntmps5
    go_wp2_with fail
    refine (alive_any _ HT.out).mono ?_
    rintro e w1 ⟨rfl, hb⟩
    have HB1 := Lib.hid hb
    clear hb
    go_wp2_with fail
    refine (short_any 12 (by decide) (HU.out.after HB1.out (Nat.le_refl _))).mono ?_
    rintro e w2 ⟨rfl, hb⟩
    rw [HS0.out]
    have HB2 := Lib.hid (HB1.out.trans (hb.mono HB1.out.size))
    clear hb HB1
    go_wp2_with fail
    refine (short_any 12 (by decide) (HV.out.after HB2.out (Nat.le_refl _))).mono ?_
    rintro e w3 ⟨rfl, hb⟩
    rw [HS1.out]
    have HB3 := Lib.hid (HB2.out.trans (hb.mono HB2.out.size))
    clear hb HB2
    go_wp2
    go_ret
    exact ⟨rfl, HB3.out⟩
  cases s2 : shortB 12 qs
  · have HS0 := Lib.hid s0
    have HS1 := Lib.hid s1
    have HS2 := Lib.hid s2
    clear h hn0 hn1 hn2 g hu hv ht s0 s1 s2
    go_enter Tryz.func5, Tryz.ntmps5
    go_wp2_with fail
    refine (alive_any _ HT.out).mono ?_
    rintro e w1 ⟨rfl, hb⟩
    have HB1 := Lib.hid hb
    clear hb
    go_wp2_with fail
    refine (short_any 12 (by decide) (HU.out.after HB1.out (Nat.le_refl _))).mono ?_
    rintro e w2 ⟨rfl, hb⟩
    rw [HS0.out]
    have HB2 := Lib.hid (HB1.out.trans (hb.mono HB1.out.size))
    clear hb HB1
    go_wp2_with fail
    refine (short_any 12 (by decide) (HV.out.after HB2.out (Nat.le_refl _))).mono ?_
    rintro e w3 ⟨rfl, hb⟩
    rw [HS1.out]
    have HB3 := Lib.hid (HB2.out.trans (hb.mono HB2.out.size))
    clear hb HB2
    go_wp2_with fail
    refine (short_any 12 (by decide) (HW.out.after HB3.out (Nat.le_refl _))).mono ?_
    rintro e w4 ⟨rfl, hb⟩
    rw [HS2.out]
    have HB4 := Lib.hid (HB3.out.trans (hb.mono HB3.out.size))
    clear hb HB3
    go_wp2
    go_ret
    exact ⟨rfl, HB4.out⟩
  exact absurd ⟨by omega, by omega, by omega, s0, s1, s2⟩ h
end Go.Proofs.YthbpadjhlkdpeaaGreatDoor
