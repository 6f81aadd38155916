/- The parts Order, Must, List of a proof, put together by program (merge.py). -/
import Derived.Test.YthbpadjhlkdpeaaGreatDoorG12
import Derived.Deep.DeepCutAuto
import Derived.Recover
/- weight's Not, Compare. -/
namespace Go.Proofs.YthbpadjhlkdpeaaGreatDoor
open Go.RowKit Go.Shelf
attribute [local go_sem ↓] Go.wp_at_zero Go.wp_at_succ



/-- The order of two numbers. -/
def sgnR (a b : Rat) : Int := if a < b then -1 else if a = b then 0 else 1
/-- What Compare answers. -/
def CmpA (s t u v : ByteArray) (n : Int) : Prop := ((okP s t && okP u v) = false ∧ n = 0) ∨ ((okP s t && okP u v) = true ∧ n = sgnR (ratP s t) (ratP u v))
def CmpPost2 (s t u v : ByteArray) (w : World) (e : Ending) (w' : World) : Prop := ∃ n : Int, e = .returned (.int .i64 n) ∧ CmpA s t u v n ∧ Below w.heap.size w w'

theorem sgn_of {a b : Rat} (ha : 0 ≤ a) (hb : 0 ≤ b) {r : Int} (h : Sign (a.num.toNat * b.den) (b.num.toNat * a.den) r) : max (-1) (min 1 r) = sgnR a b := by
  obtain ⟨h1, h2, _, _⟩ := h
  unfold sgnR
  by_cases hl : a < b
  · rw [if_pos hl]
    have := h1.2 ((lt_nat ha hb).1 hl)
    omega
  · rw [if_neg hl]
    by_cases he : a = b
    · rw [if_pos he]
      have := h2.2 ((eq_nat ha hb).1 he)
      omega
    · rw [if_neg he]
      have k1 : ¬ r < 0 := fun h => hl ((lt_nat ha hb).2 (h1.1 h))
      have k2 : ¬ r = 0 := fun h => he ((eq_nat ha hb).2 (h2.1 h))
      omega

def zeroFrac : Obj := .cells #[.slice none 0 0, .slice none 0 0] 94
def fracObj (a b : Value) : Obj := .cells #[a, b] 94
/-- What holds while Compare takes its two fractions, whichever operations have come up. -/
structure CmpInv (s t u v : ByteArray) (n1 d1 n2 d2 : Nat) (w : World) (L : Nat → Prop) (t5 t6 t16 t17 t18 t19 va vb vc vd : Value) (b5 b6 : Nat) (W : World) : Prop where
  below : Below w.heap.size w W
  box : Boxes w.heap.size [.cells #[.string s, .string t] 24, .cells #[.string u, .string v] 24] W
  l0 : L 0 → t16 = .agg #[.string s, .string t]
  l2 : L 2 → t18 = .agg #[.string u, .string v]
  l1 : L 1 → t17 = .agg #[va, vb] ∧ Num W va n1 ∧ Num W vb d1
  l3 : L 3 → t19 = .agg #[vc, vd] ∧ Num W vc n2 ∧ Num W vd d2
  l4 : L 4 → t5 = .pointer (some ⟨b5, 0, none⟩) ∧ w.heap.size + 2 ≤ b5 ∧ b5 < W.heap.size ∧ (¬ L 6 → W.heap[b5]? = some zeroFrac) ∧ (L 6 → W.heap[b5]? = some (fracObj va vb))
  l5 : L 5 → t6 = .pointer (some ⟨b6, 0, none⟩) ∧ w.heap.size + 2 ≤ b6 ∧ b6 < W.heap.size ∧ (¬ L 7 → W.heap[b6]? = some zeroFrac) ∧ (L 7 → W.heap[b6]? = some (fracObj vc vd))
  ne : L 4 → L 5 → b5 ≠ b6

section
variable {s t u v : ByteArray} {n1 d1 n2 d2 : Nat} {w : World} {L : Nat → Prop} {t5 t6 t16 t17 t18 t19 va vb vc vd : Value} {b5 b6 : Nat} {W W' : World}
theorem CmpInv.after (h : CmpInv s t u v n1 d1 n2 d2 w L t5 t6 t16 t17 t18 t19 va vb vc vd b5 b6 W) (hb : Below W.heap.size W W') : CmpInv s t u v n1 d1 n2 d2 w L t5 t6 t16 t17 t18 t19 va vb vc vd b5 b6 W' := by
  refine ⟨h.below.trans (hb.mono h.below.size), h.box.below hb h.box.lt, h.l0, h.l2, fun k => ?_, fun k => ?_, fun k => ?_, fun k => ?_, h.ne⟩
  · obtain ⟨e, x, y⟩ := h.l1 k
    exact ⟨e, x.after hb (Nat.le_refl _), y.after hb (Nat.le_refl _)⟩
  · obtain ⟨e, x, y⟩ := h.l3 k
    exact ⟨e, x.after hb (Nat.le_refl _), y.after hb (Nat.le_refl _)⟩
  · obtain ⟨e, x, y, z, z'⟩ := h.l4 k
    have := hb.block b5 y
    exact ⟨e, x, Nat.lt_of_lt_of_le y hb.size, fun m => by rw [this]; exact z m, fun m => by rw [this]; exact z' m⟩
  · obtain ⟨e, x, y, z, z'⟩ := h.l5 k
    have := hb.block b6 y
    exact ⟨e, x, Nat.lt_of_lt_of_le y hb.size, fun m => by rw [this]; exact z m, fun m => by rw [this]; exact z' m⟩

theorem CmpInv.s0 (h : CmpInv s t u v n1 d1 n2 d2 w L t5 t6 t16 t17 t18 t19 va vb vc vd b5 b6 W) : CmpInv s t u v n1 d1 n2 d2 w (fun j => j = 0 ∨ L j) t5 t6 (.agg #[.string s, .string t]) t17 t18 t19 va vb vc vd b5 b6 W := by
  refine ⟨h.below, h.box, fun _ => rfl, fun k => h.l2 (by simpa using k), fun k => h.l1 (by simpa using k), fun k => h.l3 (by simpa using k), fun k => ?_, fun k => ?_, fun k m => h.ne (by simpa using k) (by simpa using m)⟩
  · simpa using h.l4 (by simpa using k)
  · simpa using h.l5 (by simpa using k)
theorem CmpInv.s2 (h : CmpInv s t u v n1 d1 n2 d2 w L t5 t6 t16 t17 t18 t19 va vb vc vd b5 b6 W) : CmpInv s t u v n1 d1 n2 d2 w (fun j => j = 2 ∨ L j) t5 t6 t16 t17 (.agg #[.string u, .string v]) t19 va vb vc vd b5 b6 W := by
  refine ⟨h.below, h.box, fun k => h.l0 (by simpa using k), fun _ => rfl, fun k => h.l1 (by simpa using k), fun k => h.l3 (by simpa using k), fun k => ?_, fun k => ?_, fun k m => h.ne (by simpa using k) (by simpa using m)⟩
  · simpa using h.l4 (by simpa using k)
  · simpa using h.l5 (by simpa using k)
theorem CmpInv.s1 (h : CmpInv s t u v n1 d1 n2 d2 w L t5 t6 t16 t17 t18 t19 va vb vc vd b5 b6 W) (h6 : ¬ L 6) {va' vb' : Value} (ha : Num W va' n1) (hb : Num W vb' d1) :
    CmpInv s t u v n1 d1 n2 d2 w (fun j => j = 1 ∨ L j) t5 t6 t16 (.agg #[va', vb']) t18 t19 va' vb' vc vd b5 b6 W := by
  refine ⟨h.below, h.box, fun k => h.l0 (by simpa using k), fun k => h.l2 (by simpa using k), fun _ => ⟨rfl, ha, hb⟩, fun k => h.l3 (by simpa using k), fun k => ?_, fun k => ?_, fun k m => h.ne (by simpa using k) (by simpa using m)⟩
  · obtain ⟨e, x, y, z, z'⟩ := h.l4 (by simpa using k)
    exact ⟨e, x, y, fun _ => z h6, fun m => absurd (by simpa using m) h6⟩
  · simpa using h.l5 (by simpa using k)
theorem CmpInv.s3 (h : CmpInv s t u v n1 d1 n2 d2 w L t5 t6 t16 t17 t18 t19 va vb vc vd b5 b6 W) (h7 : ¬ L 7) {va' vb' : Value} (ha : Num W va' n2) (hb : Num W vb' d2) :
    CmpInv s t u v n1 d1 n2 d2 w (fun j => j = 3 ∨ L j) t5 t6 t16 t17 t18 (.agg #[va', vb']) va vb va' vb' b5 b6 W := by
  refine ⟨h.below, h.box, fun k => h.l0 (by simpa using k), fun k => h.l2 (by simpa using k), fun k => h.l1 (by simpa using k), fun _ => ⟨rfl, ha, hb⟩, fun k => ?_, fun k => ?_, fun k m => h.ne (by simpa using k) (by simpa using m)⟩
  · simpa using h.l4 (by simpa using k)
  · obtain ⟨e, x, y, z, z'⟩ := h.l5 (by simpa using k)
    exact ⟨e, x, y, fun _ => z h7, fun m => absurd (by simpa using m) h7⟩
theorem CmpInv.s4 (h : CmpInv s t u v n1 d1 n2 d2 w L t5 t6 t16 t17 t18 t19 va vb vc vd b5 b6 W) (h6 : ¬ L 6) :
    CmpInv s t u v n1 d1 n2 d2 w (fun j => j = 4 ∨ L j) (.pointer (some ⟨W.heap.size, 0, none⟩)) t6 t16 t17 t18 t19 va vb vc vd W.heap.size b6 (W.alloc zeroFrac) := by
  have k := h.after ((Below.refl W.heap.size W).alloc (Nat.le_refl _) zeroFrac)
  refine ⟨k.below, k.box, fun m => k.l0 (by simpa using m), fun m => k.l2 (by simpa using m), fun m => k.l1 (by simpa using m), fun m => k.l3 (by simpa using m), fun m => ?_, fun m => ?_, fun _ m => ?_⟩
  · exact ⟨rfl, h.box.lt, by simp, fun _ => World.alloc_heap_new W _, fun m => absurd (by simpa using m) h6⟩
  · simpa using k.l5 (by simpa using m)
  · have := (h.l5 (by simpa using m)).2.2.1; omega
theorem CmpInv.s5 (h : CmpInv s t u v n1 d1 n2 d2 w L t5 t6 t16 t17 t18 t19 va vb vc vd b5 b6 W) (h7 : ¬ L 7) :
    CmpInv s t u v n1 d1 n2 d2 w (fun j => j = 5 ∨ L j) t5 (.pointer (some ⟨W.heap.size, 0, none⟩)) t16 t17 t18 t19 va vb vc vd b5 W.heap.size (W.alloc zeroFrac) := by
  have k := h.after ((Below.refl W.heap.size W).alloc (Nat.le_refl _) zeroFrac)
  refine ⟨k.below, k.box, fun m => k.l0 (by simpa using m), fun m => k.l2 (by simpa using m), fun m => k.l1 (by simpa using m), fun m => k.l3 (by simpa using m), fun m => ?_, fun m => ?_, fun m _ => ?_⟩
  · simpa using k.l4 (by simpa using m)
  · exact ⟨rfl, h.box.lt, by simp, fun _ => World.alloc_heap_new W _, fun m => absurd (by simpa using m) h7⟩
  · have := (h.l4 (by simpa using m)).2.2.1; omega

/-- A box of fractions is filled: what stays. -/
theorem frac_put {b : Nat} (hz : W.heap[b]? = some zeroFrac) (x y : Value) :
    Keeps (fun i => i ≠ b) W ((W.setCell ⟨b, 0, none⟩ x).setCell ⟨b, 1, none⟩ y) ∧ ((W.setCell ⟨b, 0, none⟩ x).setCell ⟨b, 1, none⟩ y).heap[b]? = some (fracObj x y) ∧
      (∀ (z : Value) (n : Nat), Num W z n → Num ((W.setCell ⟨b, 0, none⟩ x).setCell ⟨b, 1, none⟩ y) z n) := by
  have hk : Keeps (fun i => i ≠ b) W ((W.setCell ⟨b, 0, none⟩ x).setCell ⟨b, 1, none⟩ y) := ((Keeps.refl _ W).setCell (by simp) _).setCell (by simp) _
  exact ⟨hk, two_put hz x y, fun z n h => h.keepsBut hz (no_ints _ _ (fun x h => by cases h) (fun x h => by cases h)) hk⟩
theorem CmpInv.s6 (h : CmpInv s t u v n1 d1 n2 d2 w L t5 t6 t16 t17 t18 t19 va vb vc vd b5 b6 W) (h6 : ¬ L 6) (h4 : L 4) (h5 : L 5) :
    CmpInv s t u v n1 d1 n2 d2 w (fun j => j = 6 ∨ L j) t5 t6 t16 t17 t18 t19 va vb vc vd b5 b6 ((W.setCell ⟨b5, 0, none⟩ va).setCell ⟨b5, 1, none⟩ vb) := by
  obtain ⟨e, x, y, z, z'⟩ := h.l4 h4
  obtain ⟨hk, hn, hN⟩ := frac_put (z h6) va vb
  have hne := h.ne h4 h5
  refine ⟨two_put_below h.below (by omega) _ _, h.box.keeps hk (fun i hi => by have : i < 2 := hi; omega), fun m => h.l0 (by simpa using m), fun m => h.l2 (by simpa using m), fun m => ?_, fun m => ?_, fun m => ?_, fun m => ?_, fun _ _ => hne⟩
  · obtain ⟨q1, q2, q3⟩ := h.l1 (by simpa using m)
    exact ⟨q1, hN _ _ q2, hN _ _ q3⟩
  · obtain ⟨q1, q2, q3⟩ := h.l3 (by simpa using m)
    exact ⟨q1, hN _ _ q2, hN _ _ q3⟩
  · exact ⟨e, x, Nat.lt_of_lt_of_le y hk.size, fun m => absurd (.inl rfl) m, fun _ => hn⟩
  · obtain ⟨q1, q2, q3, q4, q5⟩ := h.l5 h5
    have hb := hk.block b6 q3 (Ne.symm hne)
    exact ⟨q1, q2, Nat.lt_of_lt_of_le q3 hk.size, fun m => by rw [hb]; exact q4 (by simpa using m), fun m => by rw [hb]; exact q5 (by simpa using m)⟩
theorem CmpInv.s7 (h : CmpInv s t u v n1 d1 n2 d2 w L t5 t6 t16 t17 t18 t19 va vb vc vd b5 b6 W) (h7 : ¬ L 7) (h4 : L 4) (h5 : L 5) :
    CmpInv s t u v n1 d1 n2 d2 w (fun j => j = 7 ∨ L j) t5 t6 t16 t17 t18 t19 va vb vc vd b5 b6 ((W.setCell ⟨b6, 0, none⟩ vc).setCell ⟨b6, 1, none⟩ vd) := by
  obtain ⟨e, x, y, z, z'⟩ := h.l5 h5
  obtain ⟨hk, hn, hN⟩ := frac_put (z h7) vc vd
  have hne := h.ne h4 h5
  refine ⟨two_put_below h.below (by omega) _ _, h.box.keeps hk (fun i hi => by have : i < 2 := hi; omega), fun m => h.l0 (by simpa using m), fun m => h.l2 (by simpa using m), fun m => ?_, fun m => ?_, fun m => ?_, fun m => ?_, fun _ _ => hne⟩
  · obtain ⟨q1, q2, q3⟩ := h.l1 (by simpa using m)
    exact ⟨q1, hN _ _ q2, hN _ _ q3⟩
  · obtain ⟨q1, q2, q3⟩ := h.l3 (by simpa using m)
    exact ⟨q1, hN _ _ q2, hN _ _ q3⟩
  · obtain ⟨q1, q2, q3, q4, q5⟩ := h.l4 h4
    have hb := hk.block b5 q3 hne
    exact ⟨q1, q2, Nat.lt_of_lt_of_le q3 hk.size, fun m => by rw [hb]; exact q4 (by simpa using m), fun m => by rw [hb]; exact q5 (by simpa using m)⟩
  · exact ⟨e, x, Nat.lt_of_lt_of_le y hk.size, fun m => absurd (.inl rfl) m, fun _ => hn⟩
end

set_option maxRecDepth 100000 in
set_option maxHeartbeats 4000000 in
theorem compare_rat (s t u v : ByteArray) (w : World) (hs : s.size ≤ 1000000) (ht : t.size ≤ 1000000) (hu : u.size ≤ 1000000) (hv : v.size ≤ 1000000) :
    Calls Tryz.prog 37 #[.agg #[.string s, .string t], .agg #[.string u, .string v]] w (CmpPost2 s t u v w) := by
  cases h1 : okP s t
  · have H1 : Hid (okE s t = 2 ∧ (okP s t && okP u v) = false) := ⟨okE_no h1, by rw [h1]; rfl⟩
    clear h1
    go_enter Tryz.func37, Tryz.ntmps37
    go_wp2_with fail
    obtain ⟨w1, hw1⟩ : ∃ w1, (w.alloc (.cells #[.string s, .string t] 24)).alloc (.cells #[.string u, .string v] 24) = w1 := ⟨_, rfl⟩
    rw [hw1]
    have HX1 : Hid (Boxes w.heap.size [.cells #[.string s, .string t] 24, .cells #[.string u, .string v] 24] w1) := by rw [← hw1]; exact Boxes.two w _ _
    have HB1 : Hid (Below w.heap.size w w1) := by rw [← hw1]; exact ((Below.refl _ w).alloc (Nat.le_refl _) _).alloc (by simp) _
    clear hw1
    refine (check_any s t _ hs ht).mono ?_
    rintro e w2 ⟨rfl, hb2⟩
    have HX2 := Lib.hid (HX1.out.below hb2 HX1.out.lt)
    have HB2 := Lib.hid (HB1.out.trans (hb2.mono HB1.out.size))
    clear hb2
    rw [H1.out.1]
    go_wp2
    go_ret
    exact ⟨_, rfl, .inl ⟨H1.out.2, rfl⟩, HB2.out⟩
  · cases h2 : okP u v
    · have H1 := Lib.hid (okE_yes h1)
      have H2 : Hid (okE u v = 2 ∧ (okP s t && okP u v) = false) := ⟨okE_no h2, by rw [h2, Bool.and_false]⟩
      clear h1 h2
      go_enter Tryz.func37, Tryz.ntmps37
      go_wp2_with fail
      obtain ⟨w1, hw1⟩ : ∃ w1, (w.alloc (.cells #[.string s, .string t] 24)).alloc (.cells #[.string u, .string v] 24) = w1 := ⟨_, rfl⟩
      rw [hw1]
      have HX1 : Hid (Boxes w.heap.size [.cells #[.string s, .string t] 24, .cells #[.string u, .string v] 24] w1) := by rw [← hw1]; exact Boxes.two w _ _
      have HB1 : Hid (Below w.heap.size w w1) := by rw [← hw1]; exact ((Below.refl _ w).alloc (Nat.le_refl _) _).alloc (by simp) _
      clear hw1
      refine (check_any s t _ hs ht).mono ?_
      rintro e w2 ⟨rfl, hb2⟩
      have HX2 := Lib.hid (HX1.out.below hb2 HX1.out.lt)
      have HB2 := Lib.hid (HB1.out.trans (hb2.mono HB1.out.size))
      clear hb2
      rw [H1.out]
      have kc2 := HX2.out.cell 1 0 (b := w.heap.size + 1) rfl rfl rfl
      have kd2 := HX2.out.cell 1 1 (b := w.heap.size + 1) rfl rfl rfl
      go_wp2_with fail
      refine (check_any u v _ hu hv).mono ?_
      rintro e w3 ⟨rfl, hb3⟩
      rw [H2.out.1]
      have HB3 := Lib.hid (HB2.out.trans (hb3.mono HB2.out.size))
      clear hb3 kc2 kd2
      go_wp2
      go_ret
      exact ⟨_, rfl, .inl ⟨H2.out.2, rfl⟩, HB3.out⟩
    · obtain ⟨g1, g2, _, _, l1, l2, d1⟩ := ok_parts h1
      obtain ⟨g3, g4, _, _, l3, l4, d2⟩ := ok_parts h2
      have HG := Lib.hid (And.intro g1 (And.intro g2 (And.intro g3 g4)))
      have HD := Lib.hid (And.intro d1 d2)
      have H1 := Lib.hid (okE_yes h1)
      have H2 := Lib.hid (okE_yes h2)
      have HQ : Hid ((okP s t && okP u v) = true) := by show _ = _; rw [h1, h2]; rfl
      have HV := Lib.hid (And.intro (ok_vals h1) (ok_vals h2))
      clear h1 h2 g1 g2 g3 g4 d1 d2
      go_enter Tryz.func37, Tryz.ntmps37
      go_wp2_with fail
      obtain ⟨w1, hw1⟩ : ∃ w1, (w.alloc (.cells #[.string s, .string t] 24)).alloc (.cells #[.string u, .string v] 24) = w1 := ⟨_, rfl⟩
      rw [hw1]
      have HX1 : Hid (Boxes w.heap.size [.cells #[.string s, .string t] 24, .cells #[.string u, .string v] 24] w1) := by rw [← hw1]; exact Boxes.two w _ _
      have HB1 : Hid (Below w.heap.size w w1) := by rw [← hw1]; exact ((Below.refl _ w).alloc (Nat.le_refl _) _).alloc (by simp) _
      clear hw1
      refine (check_any s t _ hs ht).mono ?_
      rintro e w2 ⟨rfl, hb2⟩
      have HX2 := Lib.hid (HX1.out.below hb2 HX1.out.lt)
      have HB2 := Lib.hid (HB1.out.trans (hb2.mono HB1.out.size))
      clear hb2
      rw [H1.out]
      have kc2 := HX2.out.cell 1 0 (b := w.heap.size + 1) rfl rfl rfl
      have kd2 := HX2.out.cell 1 1 (b := w.heap.size + 1) rfl rfl rfl
      go_wp2_with fail
      refine (check_any u v _ hu hv).mono ?_
      rintro e w3 ⟨rfl, hb3⟩
      rw [H2.out]
      have HX3 := Lib.hid (HX2.out.below hb3 HX2.out.lt)
      have HB3 := Lib.hid (HB2.out.trans (hb3.mono HB2.out.size))
      clear hb3 kc2 kd2
      have ka3 := HX3.out.cell 0 0 (b := w.heap.size) rfl rfl rfl
      have kb3 := HX3.out.cell 0 1 (b := w.heap.size) rfl rfl rfl
      have kc3 := HX3.out.cell 1 0 (b := w.heap.size + 1) rfl rfl rfl
      have kd3 := HX3.out.cell 1 1 (b := w.heap.size + 1) rfl rfl rfl
      go_wp2_with fail
      obtain ⟨n1, hn1⟩ : ∃ n, decVal s.data.toList = n := ⟨_, rfl⟩
      obtain ⟨d1, hd1⟩ : ∃ n, decVal t.data.toList = n := ⟨_, rfl⟩
      obtain ⟨n2, hn2⟩ : ∃ n, decVal u.data.toList = n := ⟨_, rfl⟩
      obtain ⟨d2, hd2⟩ : ∃ n, decVal v.data.toList = n := ⟨_, rfl⟩
      have T1 := fun W : World => taken_any s t hs ht HG.out.1 HG.out.2.1 W
      have T2 := fun W : World => taken_any u v hu hv HG.out.2.2.1 HG.out.2.2.2 W
      rw [hn1, hd1] at T1
      rw [hn2, hd2] at T2
      have HT1 := Lib.hid T1
      have HT2 := Lib.hid T2
      clear T1 T2 ka3 kb3 kc3 kd3
      refine region_inv (by kernel_rfl) (by kernel_rfl) (fun L a W => ∃ (t5 t6 t16 t17 t18 t19 va vb vc vd : Value) (b5 b6 : Nat), a = { tmps := #[.agg #[.string s, .string t], .agg #[.string u, .string v], .pointer (some ⟨w.heap.size, 0, none⟩), .pointer (some ⟨w.heap.size + 1, 0, none⟩), .int .i64 0, t5, t6, undef, .agg #[.string s, .string t], .int .i64 0, .bool false, .bool false, .agg #[.string u, .string v], .int .i64 0, .bool false, .bool false, t16, t17, t18, t19, undef, undef, undef, undef, undef, undef, undef, undef, undef, undef, undef, undef, undef, undef], defers := [] } ∧ CmpInv s t u v n1 d1 n2 d2 w L t5 t6 t16 t17 t18 t19 va vb vc vd b5 b6 W) ?h0 ?hstep ?hend
      case h0 => exact ⟨_, _, _, _, _, _, undef, undef, undef, undef, 0, 0, rfl, ⟨HB3.out.drew, HX3.out.drew, fun h => h.elim, fun h => h.elim, fun h => h.elim, fun h => h.elim, fun h => h.elim, fun h => h.elim, fun h => h.elim⟩⟩
      case hstep =>
        rintro L a W i o hi hL he hC ⟨t5, t6, t16, t17, t18, t19, va, vb, vc, vd, b5, b6, rfl, hI⟩
        have HI := Lib.hid hI
        have h6 : ¬ L 1 ∨ ¬ L 4 → ¬ L 6 := fun h h' => by
          have a1 : L 1 := hC 6 _ rfl h' 1 _ rfl rfl
          have a4 : L 4 := hC 6 _ rfl h' 0 _ rfl rfl
          rcases h with h | h
          · exact h a1
          · exact h a4
        have h7 : ¬ L 3 ∨ ¬ L 5 → ¬ L 7 := fun h h' => by
          have a3 : L 3 := hC 7 _ rfl h' 1 _ rfl rfl
          have a5 : L 5 := hC 7 _ rfl h' 0 _ rfl rfl
          rcases h with h | h
          · exact h a3
          · exact h a5
        clear hI hC
        match i, hi with
        | 0, hi =>
          obtain rfl := Option.some.inj hi
          have q0 := HI.out.box.cell 0 0 (b := w.heap.size) rfl rfl rfl
          have q1 := HI.out.box.cell 0 1 (b := w.heap.size) rfl rfl rfl
          refine inv_step rfl fun K hK => ?_
          go_simp
          exact hK _ _ ⟨_, _, _, _, _, _, _, _, _, _, _, _, rfl, HI.out.s0⟩
        | 1, hi =>
          obtain rfl := Option.some.inj hi
          have h0 := HI.out.l0 (he 0 _ rfl rfl)
          have g6 := h6 (.inl hL)
          subst h0
          refine inv_step rfl fun K hK => ?_
          go_simp
          go_at_call 86
          refine (HT1.out W).mono ?_
          rintro e W' ⟨x, y, rfl, hx, hy, hb⟩
          exact hK _ _ ⟨_, _, _, _, _, _, _, _, _, _, _, _, rfl, (HI.out.after hb).s1 g6 hx hy⟩
        | 2, hi =>
          obtain rfl := Option.some.inj hi
          have q0 := HI.out.box.cell 1 0 (b := w.heap.size + 1) rfl rfl rfl
          have q1 := HI.out.box.cell 1 1 (b := w.heap.size + 1) rfl rfl rfl
          refine inv_step rfl fun K hK => ?_
          go_simp
          exact hK _ _ ⟨_, _, _, _, _, _, _, _, _, _, _, _, rfl, HI.out.s2⟩
        | 3, hi =>
          obtain rfl := Option.some.inj hi
          have h0 := HI.out.l2 (he 0 _ rfl rfl)
          have g7 := h7 (.inl hL)
          subst h0
          refine inv_step rfl fun K hK => ?_
          go_simp
          go_at_call 86
          refine (HT2.out W).mono ?_
          rintro e W' ⟨x, y, rfl, hx, hy, hb⟩
          exact hK _ _ ⟨_, _, _, _, _, _, _, _, _, _, _, _, rfl, (HI.out.after hb).s3 g7 hx hy⟩
        | 4, hi =>
          obtain rfl := Option.some.inj hi
          have g6 := h6 (.inr hL)
          refine inv_step rfl fun K hK => ?_
          go_simp
          exact hK _ _ ⟨_, _, _, _, _, _, _, _, _, _, _, _, rfl, HI.out.s4 g6⟩
        | 5, hi =>
          obtain rfl := Option.some.inj hi
          have g7 := h7 (.inr hL)
          refine inv_step rfl fun K hK => ?_
          go_simp
          exact hK _ _ ⟨_, _, _, _, _, _, _, _, _, _, _, _, rfl, HI.out.s5 g7⟩
        | 6, hi =>
          obtain rfl := Option.some.inj hi
          have g4 : L 4 := he 0 _ rfl rfl
          have g5 : L 5 := he 8 _ rfl rfl
          obtain ⟨e1, e2, e3, e4, e5⟩ := HI.out.l4 g4
          obtain ⟨e6, e7, e8⟩ := HI.out.l1 (he 1 _ rfl rfl)
          have q0 := known_cell (e4 hL) 0 rfl
          have q1 := known_cell (e4 hL) 1 rfl
          have q2 := known_frozen (e4 hL) 0
          have q3 := known_frozen (e4 hL) 1
          subst e1
          subst e6
          obtain ⟨pA, lA, cA, rfl⟩ := e7.form'
          obtain ⟨pB, lB, cB, rfl⟩ := e8.form'
          clear e4 e5 e7 e8
          refine inv_step rfl fun K hK => ?_
          go_simp
          exact hK _ _ ⟨_, _, _, _, _, _, _, _, _, _, _, _, rfl, HI.out.s6 hL g4 g5⟩
        | 7, hi =>
          obtain rfl := Option.some.inj hi
          have g4 : L 4 := he 7 _ rfl rfl
          have g5 : L 5 := he 0 _ rfl rfl
          obtain ⟨e1, e2, e3, e4, e5⟩ := HI.out.l5 g5
          obtain ⟨e6, e7, e8⟩ := HI.out.l3 (he 1 _ rfl rfl)
          have q0 := known_cell (e4 hL) 0 rfl
          have q1 := known_cell (e4 hL) 1 rfl
          have q2 := known_frozen (e4 hL) 0
          have q3 := known_frozen (e4 hL) 1
          subst e1
          subst e6
          obtain ⟨pA, lA, cA, rfl⟩ := e7.form'
          obtain ⟨pB, lB, cB, rfl⟩ := e8.form'
          clear e4 e5 e7 e8
          refine inv_step rfl fun K hK => ?_
          go_simp
          exact hK _ _ ⟨_, _, _, _, _, _, _, _, _, _, _, _, rfl, HI.out.s7 hL g4 g5⟩
        | n + 8, hi => simp at hi
      case hend =>
        rintro L a W hall ⟨t5, t6, t16, t17, t18, t19, va, vb, vc, vd, b5, b6, rfl, hI⟩
        have HI := Lib.hid hI
        obtain ⟨e1, e2, e3, _, e5⟩ := hI.l4 (hall 4 (by simp))
        obtain ⟨m1, m2, m3, _, m5⟩ := hI.l5 (hall 5 (by simp))
        have H5 := Lib.hid (e5 (hall 6 (by simp)))
        have H6 := Lib.hid (m5 (hall 7 (by simp)))
        have HN1 := Lib.hid (hI.l1 (hall 1 (by simp)))
        have HN3 := Lib.hid (hI.l3 (hall 3 (by simp)))
        have HBW := Lib.hid hI.below
        subst e1
        subst m1
        clear hI e5 m5 hall
        obtain ⟨p1, y1, c1, rfl⟩ := HN1.out.2.1.form'
        obtain ⟨p2, y2, c2, rfl⟩ := HN1.out.2.2.form'
        obtain ⟨p3, y3, c3, rfl⟩ := HN3.out.2.1.form'
        obtain ⟨p4, y4, c4, rfl⟩ := HN3.out.2.2.form'
        have k0 := known_cell H5.out 0 rfl
        have k1 := known_cell H5.out 1 rfl
        have k2 := known_cell H6.out 0 rfl
        have k3 := known_cell H6.out 1 rfl
        have L1 : Hid ((limbs 1000000000 n1).length ≤ 1000 ∧ (limbs 1000000000 d1).length ≤ 1000 ∧ (limbs 1000000000 n2).length ≤ 1000 ∧ (limbs 1000000000 d2).length ≤ 1000) := by
          subst hn1; subst hd1; subst hn2; subst hd2; exact ⟨l1, l2, l3, l4⟩
        have M1 : Hid ((limbs 1000000000 (n1 * d2)).length ≤ 1000000) := Nat.le_trans (mul_lim L1.out.1 L1.out.2.2.2) (by omega)
        have M2 : Hid ((limbs 1000000000 (n2 * d1)).length ≤ 1000000) := Nat.le_trans (mul_lim L1.out.2.2.1 L1.out.2.1) (by omega)
        go_wp2_with fail
        go_region_held3
          (fun w' => w'.cell? ⟨b5, 0, none⟩ = some (.slice p1 y1 c1) ∧ w'.cell? ⟨b5, 1, none⟩ = some (.slice p2 y2 c2) ∧ w'.cell? ⟨b6, 0, none⟩ = some (.slice p3 y3 c3) ∧ w'.cell? ⟨b6, 1, none⟩ = some (.slice p4 y4 c4))
          (first | exact ⟨k0, k1, k2, k3⟩ | exact ⟨ka2, kb2, kc2, kd2⟩ | exact ⟨ka3, kb3, kc3, kd3⟩ | exact ⟨ka4, kb4, kc4, kd4⟩)
          (first
            | (go_at_call_of 64 (Value.slice p1 y1 c1); (refine (times_num (HN1.out.2.1.after (Below.refl W.heap.size W).drew (Nat.le_refl _)) (HN3.out.2.2.after (Below.refl W.heap.size W).drew (Nat.le_refl _)) L1.out.1 L1.out.2.2.2).mono ?_; rintro e w2 ⟨xa, rfl, hv, hb⟩; obtain ⟨pa, ma, ca, rfl⟩ := hv.form'; have HA := Lib.hid hv; have F5 := Lib.hid ((hb.block b5 e3).trans H5.out); have F6 := Lib.hid ((hb.block b6 m3).trans H6.out); have HB2 : Hid (Below W.heap.size W w2) := ((Below.refl W.heap.size W).drew).trans hb; have ka2 := known_cell F5.out 0 rfl; have kb2 := known_cell F5.out 1 rfl; have kc2 := known_cell F6.out 0 rfl; have kd2 := known_cell F6.out 1 rfl; clear hv hb))
            | (go_at_call_of 64 (Value.slice p3 y3 c3); refine (times_num (HN3.out.2.1.after HB2.out (Nat.le_refl _)) (HN1.out.2.2.after HB2.out (Nat.le_refl _)) L1.out.2.2.1 L1.out.2.1).mono ?_; rintro e w3 ⟨xb, rfl, hv, hb⟩; obtain ⟨pb, mb, cb, rfl⟩ := hv.form'; have HA3 := Lib.hid (HA.out.after hb (Nat.le_refl _)); have HC := Lib.hid hv; have HB3 : Hid (Below W.heap.size W w3) := HB2.out.trans (hb.mono HB2.out.size); have F53 := Lib.hid ((HB3.out.block b5 e3).trans H5.out); have F63 := Lib.hid ((HB3.out.block b6 m3).trans H6.out); have ka3 := known_cell F53.out 0 rfl; have kb3 := known_cell F53.out 1 rfl; have kc3 := known_cell F63.out 0 rfl; have kd3 := known_cell F63.out 1 rfl; clear hv hb)
            | (go_at_call 91; refine (compare_any HA3.out HC.out M1.out M2.out).mono ?_; rintro e w4 ⟨r, rfl, hsg, hb⟩; have HSG := Lib.hid hsg; have HB4 : Hid (Below W.heap.size W w4) := HB3.out.trans (hb.mono HB3.out.size); have F54 := Lib.hid ((HB4.out.block b5 e3).trans H5.out); have F64 := Lib.hid ((HB4.out.block b6 m3).trans H6.out); have ka4 := known_cell F54.out 0 rfl; have kb4 := known_cell F54.out 1 rfl; have kc4 := known_cell F64.out 0 rfl; have kd4 := known_cell F64.out 1 rfl; clear hb hsg))
        clear k0 k1 k2 k3
        have HS : Hid (max (-1) (min 1 r) = sgnR (ratP s t) (ratP u v)) := sgn_of (HV.out.1.1) (HV.out.2.1) (by rw [← HV.out.1.2.1, ← HV.out.1.2.2, ← HV.out.2.2.1, ← HV.out.2.2.2, hn1, hd1, hn2, hd2]; exact HSG.out)
        go_wp2
        go_ret
        exact ⟨_, rfl, .inr ⟨HQ.out, HS.out⟩, HBW.out.trans (HB4.out.mono HBW.out.size)⟩
end Go.Proofs.YthbpadjhlkdpeaaGreatDoor
/- weight's Not, must, what sum does with two parts. -/
namespace Go.Proofs.YthbpadjhlkdpeaaGreatDoor
open Go.RowKit Go.Shelf



/-- The work is ended with an error's number. -/
def Broke (n : Int) : Ending := .panicked [{ v := .iface 144 (.agg #[.int .i64 n]), recovered := false }]
/-- What must answers. -/
def MustPost (s t : ByteArray) (n : Int) (w : World) (e : Ending) (w' : World) : Prop :=
  ((n = 0 ∧ e = .returned (.agg #[.string s, .string t])) ∨ (n ≠ 0 ∧ e = Broke n)) ∧ Below w.heap.size w w'

set_option maxRecDepth 100000 in
set_option maxHeartbeats 1000000 in
theorem must_any (s t : ByteArray) (n : Int) (w : World) : Calls Tryz.prog 124 #[.agg #[.string s, .string t], .int .i64 n] w (MustPost s t n w) := by
  by_cases hn : n = 0
  · have h0 : (n != 0) = false := by rw [bne_eq_false_iff_eq]; exact hn
    have H0 := Lib.hid hn
    clear hn
    go_enter Tryz.func124, Tryz.ntmps124
    go_wp2
    refine bodyPost_ret (v := .agg #[.string s, .string t]) (by simp [results, Tryz.f124, go_sem]) rfl ⟨.inl ⟨H0.out, rfl⟩, ((Below.refl _ w).alloc (Nat.le_refl _) _).alloc (by simp) _⟩
  · have h0 : (n != 0) = true := by rw [bne_iff_ne]; exact hn
    have H0 := Lib.hid hn
    clear hn
    go_enter Tryz.func124, Tryz.ntmps124
    go_wp2
    refine ⟨rfl, .inr ⟨H0.out, rfl⟩, ((Below.refl _ w).alloc (Nat.le_refl _) _).alloc (by simp) _⟩

theorem Bi.both {s t u v x y : ByteArray} {e : Int} {R : ByteArray → ByteArray → Int → Prop} (h : Bi s t u v R x y e) (h1 : okP s t = true) (h2 : okP u v = true) : R x y e := by
  rcases h with ⟨h, _⟩ | ⟨_, h⟩
  · rw [h1, h2] at h; cases h
  · exact h
theorem IsP.small {q : Rat} {s t : ByteArray} (h : IsP q s t) : s.size ≤ 600 ∧ t.size ≤ 600 := by
  rw [h.num, h.den, str_size, str_size]; exact h.fits
theorem IsP.limit {q : Rat} {s t : ByteArray} (h : IsP q s t) : s.size ≤ 1000000 ∧ t.size ≤ 1000000 := by
  have := h.small; omega

/-- What a step of a sum answers: a fraction, or the work is ended. -/
def StepPost (q : Rat) (w : World) (e : Ending) (w' : World) : Prop :=
  ((∃ x y, IsP q x y ∧ e = .returned (.agg #[.string x, .string y])) ∨ (¬ Fits q ∧ e = Broke 4)) ∧ Below w.heap.size w w'

set_option maxRecDepth 100000 in
set_option maxHeartbeats 2000000 in
theorem sum1_any {a b : Rat} {s t u v : ByteArray} (ha : IsP a s t) (hb : IsP b u v) (w : World) (hT : Tabs w) :
    Calls Tryz.prog 126 #[.agg #[.string s, .string t], .agg #[.string u, .string v]] w (StepPost (a + b) w) := by
  have HT := Lib.hid hT
  have HR : Hid (∀ x y n, Bi s t u v (Ans (ratP s t + ratP u v)) x y n → Ans (a + b) x y n) := fun x y n h => by
    have h1 := h.both ha.ok hb.ok
    rwa [ha.rat, hb.rat] at h1
  obtain ⟨ls, lt⟩ := ha.limit
  obtain ⟨lu, lv⟩ := hb.limit
  clear hT ha hb
  go_enter Tryz.func126, Tryz.ntmps126
  go_wp2_with fail
  obtain ⟨w1, hw1⟩ : ∃ w1, ((w.alloc (.cells #[.string s, .string t] 24)).alloc (.cells #[.string u, .string v] 24)).alloc (.cells #[.string ⟨#[]⟩, .string ⟨#[]⟩] 24) = w1 := ⟨_, rfl⟩
  rw [hw1]
  have HX1 : Hid (Boxes w.heap.size [.cells #[.string s, .string t] 24, .cells #[.string u, .string v] 24, .cells #[.string ⟨#[]⟩, .string ⟨#[]⟩] 24] w1) := by rw [← hw1]; exact Boxes.three w _ _ _
  have HB1 : Hid (Below w.heap.size w w1) := by rw [← hw1]; exact (((Below.refl _ w).alloc (Nat.le_refl _) _).alloc (by simp) _).alloc (by simp <;> omega) _
  clear hw1
  refine (add_rat s t u v _ ls lt lu lv (HT.out.below HB1.out (Nat.le_refl _))).mono ?_
  rintro e w2 ⟨x, y, n, rfl, hR, hb2⟩
  have HA := Lib.hid (HR.out x y n hR)
  have HX2 := Lib.hid (HX1.out.below hb2 HX1.out.lt)
  have HB2 := Lib.hid (HB1.out.trans (hb2.mono HB1.out.size))
  clear hR hb2
  go_wp2_with fail
  refine (must_any x y n _).mono ?_
  rintro e w3 ⟨hE, hb3⟩
  have HX3 := Lib.hid (HX2.out.below hb3 HX2.out.lt)
  have HB3 := Lib.hid (HB2.out.trans (hb3.mono HB2.out.size))
  clear hb3
  rcases hE with ⟨h0, rfl⟩ | ⟨h0, rfl⟩
  · have HP : Hid (IsP (a + b) x y) := HA.out.zero h0
    clear h0
    have r0 := HX3.out.cell 2 0 (b := w.heap.size + 1 + 1) rfl rfl rfl
    have r1 := HX3.out.cell 2 1 (b := w.heap.size + 1 + 1) rfl rfl rfl
    have f0 := HX3.out.free 2 0 (b := w.heap.size + 1 + 1) rfl rfl
    have f1 := HX3.out.free 2 1 (b := w.heap.size + 1 + 1) rfl rfl
    go_wp2
    have q := two_put_cells (HX3.out.block 2 (b := w.heap.size + 1 + 1) rfl rfl) (.string x) (.string y)
    have HBQ := Lib.hid (two_put_below HB3.out (b := w.heap.size + 1 + 1) (by omega) (.string x) (.string y))
    obtain ⟨w9, hw9⟩ : ∃ w9, (w3.setCell ⟨w.heap.size + 1 + 1, 0, none⟩ (.string x)).setCell ⟨w.heap.size + 1 + 1, 1, none⟩ (.string y) = w9 := ⟨_, rfl⟩
    rw [hw9] at q HBQ
    obtain ⟨q0, q1⟩ := q
    rw [hw9]
    clear r0 r1 f0 f1 hw9
    refine bodyPost_ret (v := .agg #[.string x, .string y]) (by simp [results, Tryz.f126, go_sem, q0, q1]) rfl ⟨.inl ⟨_, _, HP.out, rfl⟩, HBQ.out⟩
  · rcases HA.out with ⟨_, h1⟩ | ⟨h1, _, _, h2⟩
    · exact absurd h1 h0
    · subst h2
      have H1 := Lib.hid h1
      clear h1 h0
      unfold Broke
      go_wp2
      exact ⟨rfl, .inr ⟨H1.out, rfl⟩, HB3.out⟩
end Go.Proofs.YthbpadjhlkdpeaaGreatDoor
/- Lists of fractions: what a slice of them holds; sums of them. -/
namespace Go.Proofs.YthbpadjhlkdpeaaGreatDoor
open Go.RowKit Go.Shelf

abbrev PP := ByteArray × ByteArray
/-- The fractions at an address. -/
def PAt (w : World) (b off : Nat) (ps : List PP) : Prop :=
  ∀ j (h : j < ps.length), w.cell? ⟨b, off + j * 2, none⟩ = some (.string ps[j].1) ∧ w.cell? ⟨b, off + j * 2 + 1, none⟩ = some (.string ps[j].2)
/-- The slice value v holds just these fractions. -/
def PL (w : World) (v : Value) (ps : List PP) : Prop :=
  ∃ p cap, v = .slice p ps.length cap ∧ ps.length ≤ cap ∧ cap ≤ maxLen ∧ (ps ≠ [] → ∃ b off, p = some ⟨b, off, none⟩ ∧ b < w.heap.size ∧ PAt w b off ps)
theorem PAt.below {B : Nat} {w w' : World} {b off : Nat} {ps : List PP} (h : PAt w b off ps) (hb : Below B w w') (hB : b < B) : PAt w' b off ps :=
  fun j hj => ⟨(hb.cell (p := ⟨b, off + j * 2, none⟩) hB).trans (h j hj).1, (hb.cell (p := ⟨b, off + j * 2 + 1, none⟩) hB).trans (h j hj).2⟩
theorem PL.after {B : Nat} {w w' : World} {v : Value} {ps : List PP} (h : PL w v ps) (hb : Below B w w') (hB : w.heap.size ≤ B) : PL w' v ps := by
  obtain ⟨p, cap, h1, h2, h3, h4⟩ := h
  refine ⟨p, cap, h1, h2, h3, fun hne => ?_⟩
  obtain ⟨b, off, h5, h6, h7⟩ := h4 hne
  exact ⟨b, off, h5, Nat.lt_of_lt_of_le h6 hb.size, h7.below hb (by omega)⟩
theorem PL.nil (w : World) : PL w (.slice none 0 0) [] := ⟨none, 0, rfl, Nat.le_refl _, by simp [maxLen], by simp⟩

/-- The list's elements are these numbers. -/
def IsL (qs : List Rat) (ps : List PP) : Prop := qs.length = ps.length ∧ ∀ k (h1 : k < qs.length) (h2 : k < ps.length), IsP qs[k] ps[k].1 ps[k].2
theorem IsL.length {qs : List Rat} {ps : List PP} (h : IsL qs ps) : qs.length = ps.length := h.1
theorem IsL.get {qs : List Rat} {ps : List PP} (h : IsL qs ps) (k : Nat) (hk : k < ps.length) : IsP (qs[k]'(by rw [h.length]; exact hk)) ps[k].1 ps[k].2 := h.2 k _ hk

instance fitsDec (q : Rat) : Decidable (Fits q) := inferInstanceAs (Decidable (_ ∧ _))
/-- A sum, as long as each part of it fits. -/
def sumA : Rat → List Rat → Option Rat
  | a, [] => some a
  | a, q :: qs => if (Fits (a + q)) then sumA (a + q) qs else none

theorem boxes_put0 {B : Nat} {T : TypeId} {u0 u1 : Value} {os : List Obj} {w : World} (h : Boxes B (.cells #[u0, u1] T :: os) w) (x y : Value) :
    Boxes B (.cells #[x, y] T :: os) ((w.setCell ⟨B, 0, none⟩ x).setCell ⟨B, 1, none⟩ y) := by
  have hk : Keeps (fun i => i ≠ B) w ((w.setCell ⟨B, 0, none⟩ x).setCell ⟨B, 1, none⟩ y) := ((Keeps.refl _ w).setCell (by simp) _).setCell (by simp) _
  refine ⟨Nat.le_trans h.1 hk.size, fun i o ho => ?_⟩
  cases i with
  | zero =>
    obtain rfl := Option.some.inj ho
    exact two_put (h.2 0 _ rfl) x y
  | succ i =>
    have := h.2 (i + 1) o (by simpa using ho)
    rw [hk.block _ (Array.getElem?_eq_some_iff.1 this).1 (by omega)]
    exact this

/-- What a sum answers. -/
def SumPost (r : Option Rat) (w : World) (e : Ending) (w' : World) : Prop :=
  ((∃ q x y, r = some q ∧ IsP q x y ∧ e = .returned (.agg #[.string x, .string y])) ∨ (r = none ∧ e = Broke 4)) ∧ Below w.heap.size w w'

set_option maxRecDepth 100000 in
set_option maxHeartbeats 4000000 in
theorem foldSum_any {a : Rat} {s t : ByteArray} {v : Value} {qs : List Rat} {ps : List PP} (ha : IsP a s t) (hq : IsL qs ps) {w : World} (hv : PL w v ps) (hT : Tabs w) :
    Calls Tryz.prog 125 #[v, .agg #[.string s, .string t], .func (.func 126) #[] #[]] w (SumPost (sumA a qs) w) := by
  obtain ⟨p, cap, rfl, hcap, hmax, hp⟩ := hv
  obtain ⟨n, hn⟩ : ∃ n, ps.length = n := ⟨_, rfl⟩
  rw [hn] at hcap ⊢
  unfold maxLen at hmax
  have HN := Lib.hid hn
  have HA := Lib.hid ha
  have HQ := Lib.hid hq
  have HT := Lib.hid hT
  have HP := Lib.hid hp
  clear hn ha hq hT hp
  go_enter Tryz.func125, Tryz.ntmps125
  go_wp2
  obtain ⟨w1, hw1⟩ : ∃ w1, (w.alloc (.cells #[.string s, .string t] 24)).alloc (.cells #[.string ⟨#[]⟩, .string ⟨#[]⟩] 24) = w1 := ⟨_, rfl⟩
  rw [hw1]
  have HX1 : Hid (Boxes w.heap.size [.cells #[.string s, .string t] 24, .cells #[.string ⟨#[]⟩, .string ⟨#[]⟩] 24] w1) := by rw [← hw1]; exact Boxes.two w _ _
  have HB1 : Hid (Below w.heap.size w w1) := by rw [← hw1]; exact ((Below.refl _ w).alloc (Nat.le_refl _) _).alloc (by simp) _
  clear hw1
  go_loopw [11] (fun i wr => ∃ (k : Nat) (b : Rat) (x y : ByteArray), i = .int .i64 k ∧ k ≤ n ∧ Hid (IsP b x y) ∧ Hid (sumA a qs = sumA b (qs.drop k)) ∧ Hid (Boxes w.heap.size [.cells #[.string x, .string y] 24, .cells #[.string ⟨#[]⟩, .string ⟨#[]⟩] 24] wr) ∧ Hid (Below w.heap.size w wr)) (fun i _ => n - (intOf i).toNat)
  case atStart => exact ⟨0, a, s, t, rfl, Nat.zero_le _, HA, rfl, HX1, HB1⟩
  case round =>
    obtain ⟨k, b, x, y, rfl, hk, HI, HS, HX, HB⟩ := hrel
    clear HX1 HB1
    by_cases hlt : k < n
    · obtain ⟨bb, off, rfl, hbl, hat⟩ := HP.out (List.ne_nil_of_length_pos (by rw [HN.out]; omega))
      have hkp : k < ps.length := by rw [HN.out]; exact hlt
      obtain ⟨e0, e1⟩ := (hat.below HB.out hbl) k hkp
      obtain ⟨u, hu⟩ : ∃ u, ps[k].1 = u := ⟨_, rfl⟩
      obtain ⟨v, hv⟩ : ∃ v, ps[k].2 = v := ⟨_, rfl⟩
      rw [hu] at e0
      rw [hv] at e1
      obtain ⟨q, hq⟩ : ∃ q, qs[k]'(by rw [HQ.out.length]; exact hkp) = q := ⟨_, rfl⟩
      have HU : Hid (IsP q u v) := by rw [← hq, ← hu, ← hv]; exact HQ.out.get k hkp
      have HD : Hid (qs.drop k = q :: qs.drop (k + 1)) := by show _ = _; rw [← hq]; exact List.drop_eq_getElem_cons _
      have k0 := (HX.out.alloc (.cells #[.string u, .string v] 24)).cell 0 0 (b := w.heap.size) rfl rfl rfl
      have k1 := (HX.out.alloc (.cells #[.string u, .string v] 24)).cell 0 1 (b := w.heap.size) rfl rfl rfl
      clear hat hkp hu hv hq
      have hsz := HX.out.lt
      have hsz' : w.heap.size + 2 ≤ wr.heap.size := hsz
      clear hsz
      go_wp2_with fail
      have hal := (Below.refl wr.heap.size wr).alloc (Nat.le_refl _) (.cells #[.string u, .string v] 24)
      refine (sum1_any HI.out HU.out _ ((HT.out.below HB.out (Nat.le_refl _)).below hal (Nat.le_refl _))).mono ?_
      rintro e w2 ⟨hE, hb2⟩
      have HX2 := Lib.hid ((HX.out.alloc (.cells #[.string u, .string v] 24)).below hb2 (by simp <;> omega))
      have HB2 := Lib.hid (HB.out.trans ((hal.trans (hb2.mono (by simp))).mono HB.out.size))
      clear hb2 hal k0 k1 e0 e1
      rcases hE with ⟨x', y', h1, rfl⟩ | ⟨h1, rfl⟩
      · have HI2 := Lib.hid h1
        have HS2 : Hid (sumA a qs = sumA (b + q) (qs.drop (k + 1))) := by
          show _ = _
          rw [HS.out, HD.out, sumA, if_pos h1.fits]
        clear h1
        have r0 := HX2.out.cell 0 0 (b := w.heap.size) rfl rfl rfl
        have r1 := HX2.out.cell 0 1 (b := w.heap.size) rfl rfl rfl
        have f0 := HX2.out.free 0 0 (b := w.heap.size) rfl rfl
        have f1 := HX2.out.free 0 1 (b := w.heap.size) rfl rfl
        go_wp2
        have HX3 : Hid (Boxes w.heap.size [.cells #[.string x', .string y'] 24, .cells #[.string ⟨#[]⟩, .string ⟨#[]⟩] 24] ((w2.setCell ⟨w.heap.size, 0, none⟩ (.string x')).setCell ⟨w.heap.size, 1, none⟩ (.string y'))) := boxes_put0 HX2.out _ _
        have HB3 := Lib.hid (two_put_below HB2.out (b := w.heap.size) (Nat.le_refl _) (.string x') (.string y'))
        go_roundw
        case rel => exact ⟨k + 1, b + q, x', y', by go_num, by omega, HI2, HS2, HX3, HB3⟩
        case measure => simp [intOf]; omega
      · have HN2 : Hid (sumA a qs = none) := by
          show _ = _
          rw [HS.out, HD.out, sumA, if_neg h1]
        clear h1
        unfold Broke
        go_wp2
        exact ⟨rfl, .inr ⟨HN2.out, rfl⟩, HB2.out⟩
    · have hkn : k = n := by omega
      have HS2 : Hid (sumA a qs = some b) := by
        show _ = _
        rw [HS.out, List.drop_of_length_le (by rw [HQ.out.length, HN.out]; omega)]; rfl
      clear hkn
      have k0 := HX.out.cell 0 0 (b := w.heap.size) rfl rfl rfl
      have k1 := HX.out.cell 0 1 (b := w.heap.size) rfl rfl rfl
      have r0 := HX.out.cell 1 0 (b := w.heap.size + 1) rfl rfl rfl
      have r1 := HX.out.cell 1 1 (b := w.heap.size + 1) rfl rfl rfl
      have f0 := HX.out.free 1 0 (b := w.heap.size + 1) rfl rfl
      have f1 := HX.out.free 1 1 (b := w.heap.size + 1) rfl rfl
      go_wp2
      have q := two_put_cells (HX.out.block 1 (b := w.heap.size + 1) rfl rfl) (.string x) (.string y)
      have HBQ := Lib.hid (two_put_below HB.out (b := w.heap.size + 1) (by omega) (.string x) (.string y))
      obtain ⟨w9, hw9⟩ : ∃ w9, (wr.setCell ⟨w.heap.size + 1, 0, none⟩ (.string x)).setCell ⟨w.heap.size + 1, 1, none⟩ (.string y) = w9 := ⟨_, rfl⟩
      rw [hw9] at q HBQ
      obtain ⟨q0, q1⟩ := q
      rw [hw9]
      clear r0 r1 f0 f1 k0 k1 hw9
      refine bodyPost_ret (v := .agg #[.string x, .string y]) (by simp [results, Tryz.f125, go_sem, q0, q1]) rfl ⟨.inl ⟨_, _, _, HS2.out, HI.out, rfl⟩, HBQ.out⟩
end Go.Proofs.YthbpadjhlkdpeaaGreatDoor
