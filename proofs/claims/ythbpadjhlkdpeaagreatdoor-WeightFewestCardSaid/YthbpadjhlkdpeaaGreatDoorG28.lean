/- The parts Not of a proof, put together by program (merge.py). -/
import Derived.Test.YthbpadjhlkdpeaaGreatDoorG27
import Derived.Test.YthbpadjhlkdpeaaGreatDoorG17
/- What is left of one: the program's Not and the document's; the document's operations as rational numbers. -/
namespace Go.Proofs.YthbpadjhlkdpeaaGreatDoor
open Go.RowKit Go.Shelf
attribute [local go_sem ↓] Go.wp_at_zero Go.wp_at_succ



abbrev oneS : ByteArray := ⟨#[49]⟩
/-- What Not answers. -/
def NotA (s t x y : ByteArray) (e : Int) : Prop := Bi oneS oneS s t (SubA (ratP oneS oneS) (ratP s t)) x y e

theorem PartPost.mono {R R' : ByteArray → ByteArray → Int → Prop} {w w' : World} {e : Ending} (h : PartPost R w e w') (f : ∀ x y n, R x y n → R' x y n) : PartPost R' w e w' := by
  obtain ⟨x, y, n, h1, h2, h3⟩ := h
  exact ⟨x, y, n, h1, f x y n h2, h3⟩
theorem rmul_rat (s t u v : ByteArray) (w : World) (hs : s.size ≤ 1000000) (ht : t.size ≤ 1000000) (hu : u.size ≤ 1000000) (hv : v.size ≤ 1000000) :
    Calls Tryz.prog 19 #[.agg #[.string s, .string t], .agg #[.string u, .string v]] w (PartPost (Bi s t u v (Ans (ratP s t * ratP u v))) w) :=
  (rmul0 s t u v w hs ht hu hv).mono fun _ _ h => h.mono fun _ _ _ => bi_mul
theorem radd_rat (s t u v : ByteArray) (w : World) (hs : s.size ≤ 1000000) (ht : t.size ≤ 1000000) (hu : u.size ≤ 1000000) (hv : v.size ≤ 1000000) :
    Calls Tryz.prog 38 #[.agg #[.string s, .string t], .agg #[.string u, .string v]] w (PartPost (Bi s t u v (Ans (ratP s t + ratP u v))) w) :=
  (radd0 s t u v w hs ht hu hv).mono fun _ _ h => h.mono fun _ _ _ => bi_add
theorem rsub_rat (s t u v : ByteArray) (w : World) (hs : s.size ≤ 1000000) (ht : t.size ≤ 1000000) (hu : u.size ≤ 1000000) (hv : v.size ≤ 1000000) :
    Calls Tryz.prog 39 #[.agg #[.string s, .string t], .agg #[.string u, .string v]] w (PartPost (Bi s t u v (SubA (ratP s t) (ratP u v))) w) :=
  (rsub0 s t u v w hs ht hu hv).mono fun _ _ h => h.mono fun _ _ _ => bi_sub
theorem rdiv_rat (s t u v : ByteArray) (w : World) (hs : s.size ≤ 1000000) (ht : t.size ≤ 1000000) (hu : u.size ≤ 1000000) (hv : v.size ≤ 1000000) :
    Calls Tryz.prog 21 #[.agg #[.string s, .string t], .agg #[.string u, .string v]] w (PartPost (Bi s t u v (DivA (ratP s t) (ratP u v))) w) :=
  (rdiv0 s t u v w hs ht hu hv).mono fun _ _ h => h.mono fun _ _ _ => bi_div

/-- One answer, and no other. -/
def Det (R : ByteArray → ByteArray → Int → Prop) : Prop := ∀ x y n x' y' n', R x y n → R x' y' n' → x = x' ∧ y = y' ∧ n = n'
theorem det_ans (q : Rat) : Det (Ans q) := fun _ _ _ _ _ _ h k => h.det k
theorem det_sub (a b : Rat) : Det (SubA a b) := fun x y n x' y' n' h k => by
  rcases h with ⟨h, rfl, rfl, rfl⟩ | ⟨h, h2⟩
  · rcases k with ⟨k, rfl, rfl, rfl⟩ | ⟨k, _⟩
    · exact ⟨rfl, rfl, rfl⟩
    · exact absurd h (Rat.not_lt.2 k)
  · rcases k with ⟨k, _⟩ | ⟨_, k2⟩
    · exact absurd k (Rat.not_lt.2 h)
    · exact h2.det k2
theorem det_div (a b : Rat) : Det (DivA a b) := fun x y n x' y' n' h k => by
  rcases h with ⟨h, rfl, rfl, rfl⟩ | ⟨h, h2⟩
  · rcases k with ⟨k, rfl, rfl, rfl⟩ | ⟨k, _⟩
    · exact ⟨rfl, rfl, rfl⟩
    · rw [h] at k; exact absurd k (by decide)
  · rcases k with ⟨k, _⟩ | ⟨_, k2⟩
    · rw [k] at h; exact absurd h (by decide)
    · exact h2.det k2
theorem det_bi {s t u v : ByteArray} {R : ByteArray → ByteArray → Int → Prop} (hR : Det R) : Det (Bi s t u v R) := fun x y n x' y' n' h k => by
  rcases h with ⟨h, rfl, rfl, rfl⟩ | ⟨h, h2⟩
  · rcases k with ⟨k, rfl, rfl, rfl⟩ | ⟨k, _⟩
    · exact ⟨rfl, rfl, rfl⟩
    · rw [h] at k; cases k
  · rcases k with ⟨k, _⟩ | ⟨_, k2⟩
    · rw [k] at h; cases h
    · exact hR _ _ _ _ _ _ h2 k2
theorem det_cmp {s t u v : ByteArray} {n m : Int} (h : CmpA s t u v n) (k : CmpA s t u v m) : n = m := by
  rcases h with ⟨h, rfl⟩ | ⟨h, rfl⟩
  · rcases k with ⟨k, rfl⟩ | ⟨k, rfl⟩
    · rfl
    · rw [h] at k; cases k
  · rcases k with ⟨k, rfl⟩ | ⟨k, rfl⟩
    · rw [k] at h; cases h
    · rfl

set_option maxRecDepth 100000 in
set_option maxHeartbeats 2000000 in
theorem not_any (s t : ByteArray) (w : World) (hs : s.size ≤ 1000000) (ht : t.size ≤ 1000000) (hT : Tabs w) :
    Calls Tryz.prog 40 #[.agg #[.string s, .string t]] w (PartPost (NotA s t) w) := by
  have HT := Lib.hid hT
  clear hT
  go_enter Tryz.func40, Tryz.ntmps40
  go_wp2_with fail
  obtain ⟨w1, hw1⟩ : ∃ w1, (w.alloc (.cells #[.string s, .string t] 24)).alloc (.cells #[.string ⟨#[]⟩, .string ⟨#[]⟩] 24) = w1 := ⟨_, rfl⟩
  rw [hw1]
  have HX1 : Hid (Boxes w.heap.size [.cells #[.string s, .string t] 24, .cells #[.string ⟨#[]⟩, .string ⟨#[]⟩] 24] w1) := by rw [← hw1]; exact Boxes.two w _ _
  have HB1 : Hid (Below w.heap.size w w1) := by rw [← hw1]; exact ((Below.refl _ w).alloc (Nat.le_refl _) _).alloc (by simp) _
  clear hw1
  refine (sub_rat oneS oneS s t _ (by decide) (by decide) hs ht (HT.out.below HB1.out (Nat.le_refl _))).mono ?_
  rintro e w2 ⟨x, y, n, rfl, hR, hb2⟩
  have HR := Lib.hid hR
  have HX2 := Lib.hid (HX1.out.below hb2 HX1.out.lt)
  have HB2 := Lib.hid (HB1.out.trans (hb2.mono HB1.out.size))
  clear hR hb2
  have r0 := HX2.out.cell 1 0 (b := w.heap.size + 1) rfl rfl rfl
  have r1 := HX2.out.cell 1 1 (b := w.heap.size + 1) rfl rfl rfl
  have f0 := HX2.out.free 1 0 (b := w.heap.size + 1) rfl rfl
  have f1 := HX2.out.free 1 1 (b := w.heap.size + 1) rfl rfl
  go_wp2
  have q := two_put_cells (HX2.out.block 1 (b := w.heap.size + 1) rfl rfl) (.string x) (.string y)
  have HBQ := Lib.hid (two_put_below HB2.out (b := w.heap.size + 1) (by omega) (.string x) (.string y))
  obtain ⟨w9, hw9⟩ : ∃ w9, (w2.setCell ⟨w.heap.size + 1, 0, none⟩ (.string x)).setCell ⟨w.heap.size + 1, 1, none⟩ (.string y) = w9 := ⟨_, rfl⟩
  rw [hw9] at q HBQ
  obtain ⟨q0, q1⟩ := q
  rw [hw9]
  clear r0 r1 f0 f1 hw9
  go_wp2
  refine bodyPost_ret (v := .tuple #[.agg #[.string x, .string y], .int .i64 n]) (by simp [results, Tryz.f40, go_sem, q0, q1]) rfl ⟨_, _, _, rfl, ?_, HBQ.out⟩
  exact HR.out

set_option maxRecDepth 100000 in
theorem rone_any (w : World) : Calls Tryz.prog 96 #[] w (ValPost (pV oneS oneS) w) := by
  go_enter Tryz.func96, Tryz.ntmps96
  go_wp2
  have HB1 : Hid (Below w.heap.size w (w.alloc (pObj oneS oneS))) := (Below.refl _ w).alloc (Nat.le_refl _) _
  have c0 := cell_new w #[.string oneS, .string oneS] 24 0 rfl
  have c1 := cell_new w #[.string oneS, .string oneS] 24 1 rfl
  refine bodyPost_ret (v := pV oneS oneS) (by simp [results, Tryz.f96, go_sem, c0, c1]) rfl ⟨rfl, HB1.out⟩

set_option maxRecDepth 100000 in
set_option maxHeartbeats 4000000 in
theorem rnot_any (s t : ByteArray) (w : World) (hs : s.size ≤ 1000000) (ht : t.size ≤ 1000000) :
    Calls Tryz.prog 41 #[.agg #[.string s, .string t]] w (PartPost (NotA s t) w) := by
  go_enter Tryz.func41, Tryz.ntmps41
  go_wp2_with fail
  obtain ⟨w1, hw1⟩ : ∃ w1, (w.alloc (.cells #[.string s, .string t] 24)).alloc (.cells #[.string ⟨#[]⟩, .string ⟨#[]⟩] 24) = w1 := ⟨_, rfl⟩
  rw [hw1]
  have HX1 : Hid (Boxes w.heap.size [.cells #[.string s, .string t] 24, .cells #[.string ⟨#[]⟩, .string ⟨#[]⟩] 24] w1) := by rw [← hw1]; exact Boxes.two w _ _
  have HB1 : Hid (Below w.heap.size w w1) := by rw [← hw1]; exact ((Below.refl _ w).alloc (Nat.le_refl _) _).alloc (by simp) _
  clear hw1
  have ka1 := HX1.out.cell 0 0 (b := w.heap.size) rfl rfl rfl
  have kb1 := HX1.out.cell 0 1 (b := w.heap.size) rfl rfl rfl
  go_region_held3
    (fun w' => w'.cell? ⟨w.heap.size, 0, none⟩ = some (.string s) ∧ w'.cell? ⟨w.heap.size, 1, none⟩ = some (.string t))
    (first | exact ⟨ka1, kb1⟩ | exact ⟨ka2, kb2⟩ | exact ⟨(other_put _ _ _ (by omega) _).trans ka9, (other_put _ _ _ (by omega) _).trans kb9⟩ | exact ⟨ka9, kb9⟩)
    (first
      | (go_at_call 96; refine (rone_any _).mono ?_; rintro e w2 ⟨rfl, hb⟩; have HX2 := Lib.hid (HX1.out.drew.below hb HX1.out.lt); have HB2 : Hid (Below w.heap.size w w2) := HB1.out.drew.trans (hb.mono HB1.out.size); have ka2 := HX2.out.cell 0 0 (b := w.heap.size) rfl rfl rfl; have kb2 := HX2.out.cell 0 1 (b := w.heap.size) rfl rfl rfl; clear hb)
      | (go_at_call 39; refine (rsub_rat oneS oneS s t _ (by decide) (by decide) hs ht).mono ?_; rintro e w9 ⟨x, y, n, rfl, hR, hb9⟩; have HR := Lib.hid hR; have HX9 := Lib.hid (HX2.out.below hb9 HX2.out.lt); have HB9 : Hid (Below w.heap.size w w9) := HB2.out.trans (hb9.mono HB2.out.size); have ka9 := HX9.out.cell 0 0 (b := w.heap.size) rfl rfl rfl; have kb9 := HX9.out.cell 0 1 (b := w.heap.size) rfl rfl rfl; have r0 := HX9.out.cell 1 0 (b := w.heap.size + 1) rfl rfl rfl; have r1 := HX9.out.cell 1 1 (b := w.heap.size + 1) rfl rfl rfl; have f0 := HX9.out.free 1 0 (b := w.heap.size + 1) rfl rfl; have f1 := HX9.out.free 1 1 (b := w.heap.size + 1) rfl rfl; clear hR hb9))
  all_goals
    have q := two_put_cells (HX9.out.block 1 (b := w.heap.size + 1) rfl rfl) (.string x) (.string y)
    have HBQ := Lib.hid (two_put_below HB9.out (b := w.heap.size + 1) (by omega) (.string x) (.string y))
    obtain ⟨wz, hwz⟩ : ∃ wz, (w9.setCell ⟨w.heap.size + 1, 0, none⟩ (.string x)).setCell ⟨w.heap.size + 1, 1, none⟩ (.string y) = wz := ⟨_, rfl⟩
    rw [hwz] at q HBQ
    obtain ⟨q0, q1⟩ := q
    rw [hwz]
    clear r0 r1 f0 f1 hwz
    go_wp2
    refine bodyPost_ret (v := .tuple #[.agg #[.string x, .string y], .int .i64 n]) (by simp [results, Tryz.f41, go_sem, q0, q1]) rfl ⟨_, _, _, rfl, HR.out, HBQ.out⟩

set_option maxRecDepth 100000 in
set_option maxHeartbeats 2000000 in
/-- The law package's same. -/
theorem same_yes (x y : ByteArray) (n : Int) (w : World) : Calls Tryz.prog 22 #[pV x y, .int .i64 n, pV x y, .int .i64 n] w (BoolPost w true) := by
  go_enter Tryz.func22, Tryz.ntmps22
  go_wp2
  go_ret
  exact ⟨rfl, ((Below.refl _ w).alloc (Nat.le_refl _) _).alloc (by simp) _⟩
end Go.Proofs.YthbpadjhlkdpeaaGreatDoor
