/- The parts LawOne, LawAlive, LawOps of a proof, put together by program (merge.py). -/
import Derived.Test.YthbpadjhlkdpeaaGreatDoorG16
import Derived.Deep.RegionHeld3
import Derived.Test.YthbpadjhlkdpeaaGreatDoorG13
/- What the examples of the law package are. -/
namespace Go.Proofs.YthbpadjhlkdpeaaGreatDoor
open Go.RowKit Go.Shelf

/-- A call that answers this value. -/
def ValPost (v : Value) (w : World) (e : Ending) (w' : World) : Prop := e = .returned v ∧ Below w.heap.size w w'
/-- The value of a fraction. -/
abbrev pV (s t : ByteArray) : Value := .agg #[.string s, .string t]

theorem of_is {a b : Nat} (hb : 0 < b) (ha1 : a < 1000) (hb1 : b < 1000) {s t : ByteArray} (hs : str (numD (mkRat (a : Nat) b)) = s) (ht : str (denD (mkRat (a : Nat) b)) = t) (w : World) (hT : Tabs w) :
    Calls Tryz.prog 30 #[.int .i64 a, .int .i64 b] w (ValPost (pV s t) w) := by
  refine (lawOf a b hb ha1 hb1 w hT).mono ?_
  rintro e w' ⟨x, y, rfl, h, hb⟩
  rw [h.num, h.den, hs, ht]
  exact ⟨rfl, hb⟩
theorem of_11 (w : World) (hT : Tabs w) : Calls Tryz.prog 30 #[.int .i64 1, .int .i64 1] w (ValPost (pV ⟨#[49]⟩ ⟨#[49]⟩) w) :=
  of_is (a := 1) (b := 1) (by decide) (by decide) (by decide) (by decide +kernel) (by decide +kernel) w hT
theorem of_12 (w : World) (hT : Tabs w) : Calls Tryz.prog 30 #[.int .i64 1, .int .i64 2] w (ValPost (pV ⟨#[49]⟩ ⟨#[50]⟩) w) :=
  of_is (a := 1) (b := 2) (by decide) (by decide) (by decide) (by decide +kernel) (by decide +kernel) w hT
theorem of_13 (w : World) (hT : Tabs w) : Calls Tryz.prog 30 #[.int .i64 1, .int .i64 3] w (ValPost (pV ⟨#[49]⟩ ⟨#[51]⟩) w) :=
  of_is (a := 1) (b := 3) (by decide) (by decide) (by decide) (by decide +kernel) (by decide +kernel) w hT
theorem of_14 (w : World) (hT : Tabs w) : Calls Tryz.prog 30 #[.int .i64 1, .int .i64 4] w (ValPost (pV ⟨#[49]⟩ ⟨#[52]⟩) w) :=
  of_is (a := 1) (b := 4) (by decide) (by decide) (by decide) (by decide +kernel) (by decide +kernel) w hT
theorem of_34 (w : World) (hT : Tabs w) : Calls Tryz.prog 30 #[.int .i64 3, .int .i64 4] w (ValPost (pV ⟨#[51]⟩ ⟨#[52]⟩) w) :=
  of_is (a := 3) (b := 4) (by decide) (by decide) (by decide) (by decide +kernel) (by decide +kernel) w hT

theorem make_64 (w : World) (hT : Tabs w) : Calls Tryz.prog 47 #[.string ⟨#[54]⟩, .string ⟨#[52]⟩] w (ValPost (.tuple #[pV ⟨#[51]⟩ ⟨#[50]⟩, .int .i64 0]) w) := by
  refine (make_any _ _ w (by decide) (by decide) hT).mono ?_
  rintro e w' ⟨x, y, n, rfl, h, hb⟩
  have h1 : (natOk (⟨#[54]⟩ : ByteArray).data.toList && natOk (⟨#[52]⟩ : ByteArray).data.toList) = true := by decide +kernel
  have h2 : Fits (ratP ⟨#[54]⟩ ⟨#[52]⟩) := by decide +kernel
  rcases h with ⟨h, _⟩ | ⟨_, h, _⟩ | ⟨_, _, h⟩
  · rw [h1] at h; cases h
  · exact absurd h (by decide +kernel)
  · obtain ⟨h3, rfl⟩ := h.fit h2
    rw [h3.num, h3.den]
    refine ⟨?_, hb⟩
    have e1 : str (numD (ratP ⟨#[54]⟩ ⟨#[52]⟩)) = ⟨#[51]⟩ := by decide +kernel
    have e2 : str (denD (ratP ⟨#[54]⟩ ⟨#[52]⟩)) = ⟨#[50]⟩ := by decide +kernel
    rw [e1, e2]
theorem add_ex (w : World) (hT : Tabs w) : Calls Tryz.prog 35 #[pV ⟨#[49]⟩ ⟨#[50]⟩, pV ⟨#[49]⟩ ⟨#[51]⟩] w (ValPost (.tuple #[pV ⟨#[53]⟩ ⟨#[54]⟩, .int .i64 0]) w) := by
  refine (add_rat _ _ _ _ w (by decide) (by decide) (by decide) (by decide) hT).mono ?_
  rintro e w' ⟨x, y, n, rfl, h, hb⟩
  have h1 : (okP ⟨#[49]⟩ ⟨#[50]⟩ && okP ⟨#[49]⟩ ⟨#[51]⟩) = true := by decide +kernel
  have h2 : Fits (ratP ⟨#[49]⟩ ⟨#[50]⟩ + ratP ⟨#[49]⟩ ⟨#[51]⟩) := by decide +kernel
  rcases h with ⟨h, _⟩ | ⟨_, h⟩
  · rw [h1] at h; cases h
  · obtain ⟨h3, rfl⟩ := h.fit h2
    rw [h3.num, h3.den]
    refine ⟨?_, hb⟩
    have e1 : str (numD (ratP ⟨#[49]⟩ ⟨#[50]⟩ + ratP ⟨#[49]⟩ ⟨#[51]⟩)) = ⟨#[53]⟩ := by decide +kernel
    have e2 : str (denD (ratP ⟨#[49]⟩ ⟨#[50]⟩ + ratP ⟨#[49]⟩ ⟨#[51]⟩)) = ⟨#[54]⟩ := by decide +kernel
    rw [e1, e2]

abbrev exP : List PP := [(⟨#[49]⟩, ⟨#[50]⟩), (⟨#[49]⟩, ⟨#[50]⟩)]
abbrev exQ : List PP := [(⟨#[49]⟩, ⟨#[52]⟩), (⟨#[51]⟩, ⟨#[52]⟩)]
theorem ex_upd : updA (rats exP) (rats exQ) = .ok ([mkRat (1 : Nat) 4, mkRat (3 : Nat) 4], mkRat (1 : Nat) 2) := by
  have h1 : prodA (rats exP) (rats exQ) = some [mkRat (1 : Nat) 8, mkRat (3 : Nat) 8] := by decide +kernel
  have h2 : sumA 0 [mkRat (1 : Nat) 8, mkRat (3 : Nat) 8] = some (mkRat (1 : Nat) 2) := by decide +kernel
  have h3 : mkRat (1 : Nat) 2 ≠ 0 := by decide +kernel
  have h4 : shareA (mkRat (1 : Nat) 2) [mkRat (1 : Nat) 8, mkRat (3 : Nat) 8] = some [mkRat (1 : Nat) 4, mkRat (3 : Nat) 4] := by decide +kernel
  unfold updA
  rw [h1]; dsimp only
  rw [h2]; dsimp only
  rw [if_neg h3, h4]
/-- What the example's Update answers. -/
def ExPost (w : World) (e : Ending) (w' : World) : Prop :=
  Below w.heap.size w w' ∧ ∃ b off cap, e = .returned (.tuple #[.slice (some ⟨b, off, none⟩) 2 cap, pV ⟨#[49]⟩ ⟨#[50]⟩, .int .i64 0]) ∧ 2 ≤ cap ∧ cap ≤ maxLen ∧ b < w'.heap.size ∧
    w'.cell? ⟨b, off, none⟩ = some (.string ⟨#[49]⟩) ∧ w'.cell? ⟨b, off + 1, none⟩ = some (.string ⟨#[52]⟩) ∧ w'.cell? ⟨b, off + 2, none⟩ = some (.string ⟨#[51]⟩) ∧ w'.cell? ⟨b, off + 3, none⟩ = some (.string ⟨#[52]⟩)
theorem update_ex {u v : Value} {w : World} (hu : PL w u exP) (hv : PL w v exQ) (hT : Tabs w) :
    Calls Tryz.prog 24 #[u, v] w (ExPost w) := by
  refine (update_any hu hv (fun _ _ => by decide) hT).mono ?_
  rintro e w' ⟨hb, ⟨h, _⟩ | ⟨_, ⟨s, z, us, v, x, y, h1, h2, h3, h4, rfl⟩ | ⟨n, h, _⟩⟩⟩
  · exact absurd (by decide +kernel) h
  · rw [ex_upd] at h1
    obtain ⟨rfl, rfl⟩ := Prod.mk.inj (Except.ok.inj h1)
    obtain ⟨p, cap, rfl, k1, k2, k3⟩ := h4
    have hl : us.length = 2 := h2.length.symm
    obtain ⟨b, off, rfl, k4, k5⟩ := k3 (List.ne_nil_of_length_pos (by omega))
    refine ⟨hb, b, off, cap, ?_, by omega, k2, k4, ?_⟩
    · rw [hl, h3.num, h3.den]
      have e1 : str (numD (mkRat (1 : Nat) 2)) = ⟨#[49]⟩ := by decide +kernel
      have e2 : str (denD (mkRat (1 : Nat) 2)) = ⟨#[50]⟩ := by decide +kernel
      rw [e1, e2]
    · have g0 := h2.get 0 (by omega)
      have g1 := h2.get 1 (by omega)
      obtain ⟨c0, c1⟩ := k5 0 (by omega)
      obtain ⟨c2, c3⟩ := k5 1 (by omega)
      rw [g0.num] at c0
      rw [g0.den] at c1
      rw [g1.num] at c2
      rw [g1.den] at c3
      have e1 : str (numD (mkRat (1 : Nat) 4)) = ⟨#[49]⟩ := by decide +kernel
      have e2 : str (denD (mkRat (1 : Nat) 4)) = ⟨#[52]⟩ := by decide +kernel
      have e3 : str (numD (mkRat (3 : Nat) 4)) = ⟨#[51]⟩ := by decide +kernel
      have e4 : str (denD (mkRat (3 : Nat) 4)) = ⟨#[52]⟩ := by decide +kernel
      exact ⟨c0.trans (congrArg (fun z => some (Value.string z)) e1), c1.trans (congrArg (fun z => some (Value.string z)) e2), c2.trans (congrArg (fun z => some (Value.string z)) e3), c3.trans (congrArg (fun z => some (Value.string z)) e4)⟩
  · rw [ex_upd] at h; cases h
end Go.Proofs.YthbpadjhlkdpeaaGreatDoor
/- The law package's alive. -/
namespace Go.Proofs.YthbpadjhlkdpeaaGreatDoor
open Go.RowKit Go.Shelf

/-- Fractions that lie in blocks of their own. -/
def Ats (l : List (Nat × ByteArray × ByteArray)) (w : World) : Prop := ∀ (i : Nat) (p : Nat × ByteArray × ByteArray), l[i]? = some p → w.heap[p.1]? = some (pObj p.2.1 p.2.2)
theorem Ats.nil (w : World) : Ats [] w := fun i p h => by simp at h
theorem Ats.after {l : List (Nat × ByteArray × ByteArray)} {w w' : World} {B : Nat} (h : Ats l w) (hb : Below B w w') (hB : w.heap.size ≤ B) : Ats l w' := fun i p hp => by
  have h1 := h i p hp
  have h2 := (Array.getElem?_eq_some_iff.1 h1).1
  rw [hb.block p.1 (by omega)]
  exact h1
theorem Ats.push {l : List (Nat × ByteArray × ByteArray)} {w : World} (h : Ats l w) (x y : ByteArray) : Ats ((w.heap.size, x, y) :: l) (w.alloc (pObj x y)) := fun i p hp => by
  cases i with
  | zero =>
    obtain rfl := Option.some.inj hp
    exact World.alloc_heap_new w _
  | succ i =>
    have h1 := h i p (by simpa using hp)
    have h2 := (Array.getElem?_eq_some_iff.1 h1).1
    rw [Below.heap_alloc _ _ _ (by omega)]
    exact h1
theorem Ats.c0 {l : List (Nat × ByteArray × ByteArray)} {w : World} (h : Ats l w) (i : Nat) {b : Nat} {x y : ByteArray} (hp : l[i]? = some (b, x, y)) : w.cell? ⟨b, 0, none⟩ = some (.string x) := known_cell (h i _ hp) 0 rfl
theorem Ats.c1 {l : List (Nat × ByteArray × ByteArray)} {w : World} (h : Ats l w) (i : Nat) {b : Nat} {x y : ByteArray} (hp : l[i]? = some (b, x, y)) : w.cell? ⟨b, 1, none⟩ = some (.string y) := known_cell (h i _ hp) 1 rfl
theorem Ats.lt {l : List (Nat × ByteArray × ByteArray)} {w : World} (h : Ats l w) (i : Nat) {p : Nat × ByteArray × ByteArray} (hp : l[i]? = some p) : p.1 < w.heap.size := (Array.getElem?_eq_some_iff.1 (h i _ hp)).1

theorem pl_two (w : World) (s t u v : ByteArray) : PL (w.alloc (.cells #[.string s, .string t, .string u, .string v] 24)) (.slice (some ⟨w.heap.size, 0, none⟩) 2 2) [(s, t), (u, v)] := by
  refine ⟨_, 2, rfl, Nat.le_refl _, by simp [maxLen], fun _ => ⟨_, 0, rfl, by simp, fun j hj => ?_⟩⟩
  match j, hj with
  | 0, _ => exact ⟨cell_new _ _ _ 0 rfl, cell_new _ _ _ 1 rfl⟩
  | 1, _ => exact ⟨cell_new _ _ _ 2 rfl, cell_new _ _ _ 3 rfl⟩
  | j + 2, h => simp at h; try omega

set_option maxRecDepth 100000 in
set_option maxHeartbeats 8000000 in
theorem alive_any (w : World) (hT : Tabs w) : Calls Tryz.prog 17 #[] w (BoolPost w true) := by
  have HT := Lib.hid hT
  clear hT
  go_enter Tryz.func17, Tryz.ntmps17
  go_wp2_with fail
  refine (make_64 _ HT.out).mono ?_
  rintro e w1 ⟨rfl, hb1⟩
  have HB1 : Hid (Below w.heap.size w (w1.alloc (pObj ⟨#[51]⟩ ⟨#[50]⟩))) := hb1.alloc hb1.size _
  have HA1 := Lib.hid ((Ats.nil w1).push ⟨#[51]⟩ ⟨#[50]⟩)
  clear hb1
  go_wp2_with fail
  refine (of_12 _ (HT.out.below HB1.out (Nat.le_refl _))).mono ?_
  rintro e w2 ⟨rfl, hb2⟩
  have HB2 := Lib.hid (HB1.out.trans (hb2.mono HB1.out.size))
  have HA2 := Lib.hid (HA1.out.after hb2 (Nat.le_refl _))
  clear hb2
  go_wp2_with fail
  refine (of_13 _ (HT.out.below HB2.out (Nat.le_refl _))).mono ?_
  rintro e w3 ⟨rfl, hb3⟩
  have HB3 := Lib.hid (HB2.out.trans (hb3.mono HB2.out.size))
  have HA3 := Lib.hid (HA2.out.after hb3 (Nat.le_refl _))
  clear hb3
  go_wp2_with fail
  refine (add_ex _ (HT.out.below HB3.out (Nat.le_refl _))).mono ?_
  rintro e w4 ⟨rfl, hb4⟩
  have HB4 : Hid (Below w.heap.size w (w4.alloc (pObj ⟨#[53]⟩ ⟨#[54]⟩))) := (HB3.out.trans (hb4.mono HB3.out.size)).alloc (Nat.le_trans HB3.out.size hb4.size) _
  have HA4 := Lib.hid ((HA3.out.after hb4 (Nat.le_refl _)).push ⟨#[53]⟩ ⟨#[54]⟩)
  clear hb4
  go_wp2_with fail
  refine (of_12 _ (HT.out.below HB4.out (Nat.le_refl _))).mono ?_
  rintro e w5 ⟨rfl, hb5⟩
  have HB5 := Lib.hid (HB4.out.trans (hb5.mono HB4.out.size))
  have HA5 := Lib.hid (HA4.out.after hb5 (Nat.le_refl _))
  clear hb5
  go_wp2_with fail
  refine (of_12 _ (HT.out.below HB5.out (Nat.le_refl _))).mono ?_
  rintro e w6 ⟨rfl, hb6⟩
  have HB6 : Hid (Below w.heap.size w (w6.alloc (.cells #[.string ⟨#[49]⟩, .string ⟨#[50]⟩, .string ⟨#[49]⟩, .string ⟨#[50]⟩] 24))) := (HB5.out.trans (hb6.mono HB5.out.size)).alloc (Nat.le_trans HB5.out.size hb6.size) _
  have HA6 := Lib.hid ((HA5.out.after hb6 (Nat.le_refl _)).after ((Below.refl _ w6).alloc (Nat.le_refl _) (.cells #[.string ⟨#[49]⟩, .string ⟨#[50]⟩, .string ⟨#[49]⟩, .string ⟨#[50]⟩] 24)) (Nat.le_refl _))
  have HL6 := Lib.hid (pl_two w6 ⟨#[49]⟩ ⟨#[50]⟩ ⟨#[49]⟩ ⟨#[50]⟩)
  clear hb6
  go_wp2_with fail
  refine (of_14 _ (HT.out.below HB6.out (Nat.le_refl _))).mono ?_
  rintro e w7 ⟨rfl, hb7⟩
  have HB7 := Lib.hid (HB6.out.trans (hb7.mono HB6.out.size))
  have HA7 := Lib.hid (HA6.out.after hb7 (Nat.le_refl _))
  have HL7 := Lib.hid (HL6.out.after hb7 (Nat.le_refl _))
  clear hb7
  go_wp2_with fail
  refine (of_34 _ (HT.out.below HB7.out (Nat.le_refl _))).mono ?_
  rintro e w8 ⟨rfl, hb8⟩
  have hal := (Below.refl _ w8).alloc (Nat.le_refl _) (.cells #[.string ⟨#[49]⟩, .string ⟨#[52]⟩, .string ⟨#[51]⟩, .string ⟨#[52]⟩] 24)
  have HB8 := Lib.hid (HB7.out.trans ((hb8.trans (hal.mono hb8.size)).mono HB7.out.size))
  have HA8 := Lib.hid ((HA7.out.after hb8 (Nat.le_refl _)).after hal (Nat.le_refl _))
  have HL8 := Lib.hid ((HL7.out.after hb8 (Nat.le_refl _)).after hal (Nat.le_refl _))
  have HM8 := Lib.hid (pl_two w8 ⟨#[49]⟩ ⟨#[52]⟩ ⟨#[51]⟩ ⟨#[52]⟩)
  clear hb8 hal HA1 HA2 HA3 HA4 HA5 HA6 HA7 HL6 HL7
  go_wp2_with fail
  refine (update_ex HL8.out HM8.out (HT.out.below HB8.out (Nat.le_refl _))).mono ?_
  rintro e w9 ⟨hb9, b, off, cap, rfl, hc1, hc2, hc3, hc4⟩
  have HB9 : Hid (Below w.heap.size w (w9.alloc (pObj ⟨#[49]⟩ ⟨#[50]⟩))) := (HB8.out.trans (hb9.mono HB8.out.size)).alloc (Nat.le_trans HB8.out.size hb9.size) _
  have HA9 := Lib.hid ((HA8.out.after hb9 (Nat.le_refl _)).push ⟨#[49]⟩ ⟨#[50]⟩)
  have HC9 : Hid (w9.cell? ⟨b, off, none⟩ = some (.string ⟨#[49]⟩) ∧ w9.cell? ⟨b, off + 1, none⟩ = some (.string ⟨#[52]⟩) ∧ w9.cell? ⟨b, off + 2, none⟩ = some (.string ⟨#[51]⟩) ∧ w9.cell? ⟨b, off + 3, none⟩ = some (.string ⟨#[52]⟩)) := hc4
  have HL9 : Hid (b < w9.heap.size) := hc3
  clear hb9 HA8 HL8 HM8 hc3 hc4
  unfold maxLen at hc2
  have m0 := HA9.out.c0 2 rfl
  have m1 := HA9.out.c1 2 rfl
  have m2 := HA9.out.c0 1 rfl
  have m3 := HA9.out.c1 1 rfl
  go_wp2_with fail
  obtain ⟨W, hW⟩ : ∃ W, w9.alloc (pObj ⟨#[49]⟩ ⟨#[50]⟩) = W := ⟨_, rfl⟩
  have hS : ∀ w', Below W.heap.size W w' → w'.cell? ⟨b, off, none⟩ = some (.string ⟨#[49]⟩) ∧ w'.cell? ⟨b, off + 1, none⟩ = some (.string ⟨#[52]⟩) ∧ w'.cell? ⟨b, off + 2, none⟩ = some (.string ⟨#[51]⟩) ∧ w'.cell? ⟨b, off + 3, none⟩ = some (.string ⟨#[52]⟩) ∧ w'.cell? ⟨w9.heap.size, 0, none⟩ = some (.string ⟨#[49]⟩) ∧ w'.cell? ⟨w9.heap.size, 1, none⟩ = some (.string ⟨#[50]⟩) := by
    intro w' hb
    have hal : Below w9.heap.size w9 W := by rw [← hW]; exact (Below.refl _ w9).alloc (Nat.le_refl _) _
    have hsz : W.heap.size = w9.heap.size + 1 := by rw [← hW]; simp
    have hx := hal.trans (hb.mono (by omega))
    obtain ⟨k1, k2, k3, k4⟩ := HC9.out
    have hA : Ats [(w9.heap.size, ⟨#[49]⟩, ⟨#[50]⟩), (w4.heap.size, ⟨#[53]⟩, ⟨#[54]⟩), (w1.heap.size, ⟨#[51]⟩, ⟨#[50]⟩)] W := by rw [← hW]; exact HA9.out
    have hA2 := hA.after hb (Nat.le_refl _)
    exact ⟨(hx.cell (p := ⟨b, off, none⟩) HL9.out).trans k1, (hx.cell (p := ⟨b, off + 1, none⟩) HL9.out).trans k2, (hx.cell (p := ⟨b, off + 2, none⟩) HL9.out).trans k3, (hx.cell (p := ⟨b, off + 3, none⟩) HL9.out).trans k4, hA2.c0 0 rfl, hA2.c1 0 rfl⟩
  have HS := Lib.hid hS
  rw [hW]
  have HBW : Hid (Below w.heap.size w W) := by rw [← hW]; exact HB9.out
  clear hS m0 m1 m2 m3 hW HA9 HC9 HL9
  obtain ⟨k1, k2, k3, k4, k5, k6⟩ := HS.out W (Below.refl _ W)
  go_region_held3
    (fun w' => w'.cell? ⟨b, off, none⟩ = some (.string ⟨#[49]⟩) ∧ w'.cell? ⟨b, off + 1, none⟩ = some (.string ⟨#[52]⟩) ∧ w'.cell? ⟨b, off + 2, none⟩ = some (.string ⟨#[51]⟩) ∧ w'.cell? ⟨b, off + 3, none⟩ = some (.string ⟨#[52]⟩) ∧ w'.cell? ⟨w9.heap.size, 0, none⟩ = some (.string ⟨#[49]⟩) ∧ w'.cell? ⟨w9.heap.size, 1, none⟩ = some (.string ⟨#[50]⟩))
    (first | exact ⟨k1, k2, k3, k4, k5, k6⟩ | exact HK2.out | exact HK3.out | exact HK4.out)
    (first
      | (go_at_call_of 30 (Value.int .i64 3); refine (of_34 _ (HT.out.below (HBW.out.trans (HX2.out.mono HBW.out.size)) (Nat.le_refl _))).mono ?_; rintro e w3 ⟨rfl, hb⟩; have HX3 : Hid (Below W.heap.size W w3) := HX2.out.trans (hb.mono HX2.out.size); have HK3 := Lib.hid (HS.out w3 HX3.out); clear hb)
      | (go_at_call 30; refine (of_12 _ (HT.out.below (HBW.out.trans (HX3.out.mono HBW.out.size)) (Nat.le_refl _))).mono ?_; rintro e w4 ⟨rfl, hb⟩; have HX4 : Hid (Below W.heap.size W w4) := HX3.out.trans (hb.mono HX3.out.size); have HK4 := Lib.hid (HS.out w4 HX4.out); clear hb)
      | (go_at_call 30; refine (of_14 _ (HT.out.below (HBW.out.trans (((Below.refl W.heap.size W).drew).mono HBW.out.size)) (Nat.le_refl _))).mono ?_; rintro e w2 ⟨rfl, hb⟩; have HX2 : Hid (Below W.heap.size W w2) := ((Below.refl W.heap.size W).drew).trans hb; have HK2 := Lib.hid (HS.out w2 HX2.out); clear hb))
  clear k1 k2 k3 k4 k5 k6
  go_wp2
  go_ret
  exact ⟨rfl, HBW.out.trans (HX4.out.mono HBW.out.size)⟩
end Go.Proofs.YthbpadjhlkdpeaaGreatDoor
/- weight's operations upon known fractions. -/
namespace Go.Proofs.YthbpadjhlkdpeaaGreatDoor
open Go.RowKit Go.Shelf

theorem IsP.le {q : Rat} {s t : ByteArray} (h : IsP q s t) : s.size ≤ 1000000 ∧ t.size ≤ 1000000 := by
  obtain ⟨h1, h2⟩ := h.fits
  rw [h.num, h.den, str_size, str_size]
  exact ⟨Nat.le_trans h1 (by decide), Nat.le_trans h2 (by decide)⟩
theorem IsP.oks {q r : Rat} {s t u v : ByteArray} (h : IsP q s t) (k : IsP r u v) : (okP s t && okP u v) = true := by rw [h.ok, k.ok]; rfl
theorem IsP.one {q : Rat} {s t u v : ByteArray} (h : IsP q s t) (k : IsP q u v) : s = u ∧ t = v := ⟨by rw [h.num, k.num], by rw [h.den, k.den]⟩
theorem ans_to {q p : Rat} {x y u v : ByteArray} {n : Int} (h : Ans q u v n) (hx : IsP p x y) (hq : q = p) : u = x ∧ v = y ∧ n = 0 := by
  subst hq
  obtain ⟨h1, h2⟩ := h.fit hx.fits
  obtain ⟨h3, h4⟩ := h1.one hx
  exact ⟨h3, h4, h2⟩

theorem add_to {q r p : Rat} {s t u v x y : ByteArray} (ha : IsP q s t) (hb : IsP r u v) (hx : IsP p x y) (hq : q + r = p) (w : World) (hT : Tabs w) :
    Calls Tryz.prog 35 #[pV s t, pV u v] w (ValPost (.tuple #[pV x y, .int .i64 0]) w) := by
  refine (add_rat s t u v w ha.le.1 ha.le.2 hb.le.1 hb.le.2 hT).mono ?_
  rintro e w' ⟨x', y', n, rfl, h, hbb⟩
  rcases h with ⟨h, _⟩ | ⟨_, h⟩
  · rw [ha.oks hb] at h; cases h
  · rw [ha.rat, hb.rat] at h
    obtain ⟨rfl, rfl, rfl⟩ := ans_to h hx hq
    exact ⟨rfl, hbb⟩
theorem mul_to {q r p : Rat} {s t u v x y : ByteArray} (ha : IsP q s t) (hb : IsP r u v) (hx : IsP p x y) (hq : q * r = p) (w : World) (hT : Tabs w) :
    Calls Tryz.prog 18 #[pV s t, pV u v] w (ValPost (.tuple #[pV x y, .int .i64 0]) w) := by
  refine (mul_rat s t u v w ha.le.1 ha.le.2 hb.le.1 hb.le.2 hT).mono ?_
  rintro e w' ⟨x', y', n, rfl, h, hbb⟩
  rcases h with ⟨h, _⟩ | ⟨_, h⟩
  · rw [ha.oks hb] at h; cases h
  · rw [ha.rat, hb.rat] at h
    obtain ⟨rfl, rfl, rfl⟩ := ans_to h hx hq
    exact ⟨rfl, hbb⟩
theorem sub_to {q r p : Rat} {s t u v x y : ByteArray} (ha : IsP q s t) (hb : IsP r u v) (hx : IsP p x y) (hq : q - r = p) (w : World) (hT : Tabs w) :
    Calls Tryz.prog 36 #[pV s t, pV u v] w (ValPost (.tuple #[pV x y, .int .i64 0]) w) := by
  refine (sub_rat s t u v w ha.le.1 ha.le.2 hb.le.1 hb.le.2 hT).mono ?_
  rintro e w' ⟨x', y', n, rfl, h, hbb⟩
  rcases h with ⟨h, _⟩ | ⟨_, h⟩
  · rw [ha.oks hb] at h; cases h
  · rw [ha.rat, hb.rat] at h
    rcases h with ⟨h, _⟩ | ⟨_, h⟩
    · have := hx.nn; grind
    · obtain ⟨rfl, rfl, rfl⟩ := ans_to h hx hq
      exact ⟨rfl, hbb⟩
theorem sub_less {q r : Rat} {s t u v : ByteArray} (ha : IsP q s t) (hb : IsP r u v) (hq : q < r) (w : World) (hT : Tabs w) :
    Calls Tryz.prog 36 #[pV s t, pV u v] w (ValPost (.tuple #[pV ⟨#[]⟩ ⟨#[]⟩, .int .i64 11]) w) := by
  refine (sub_rat s t u v w ha.le.1 ha.le.2 hb.le.1 hb.le.2 hT).mono ?_
  rintro e w' ⟨x', y', n, rfl, h, hbb⟩
  rcases h with ⟨h, _⟩ | ⟨_, h⟩
  · rw [ha.oks hb] at h; cases h
  · rw [ha.rat, hb.rat] at h
    rcases h with ⟨_, rfl, rfl, rfl⟩ | ⟨h, _⟩
    · exact ⟨rfl, hbb⟩
    · grind
theorem div_to {q r p : Rat} {s t u v x y : ByteArray} (ha : IsP q s t) (hb : IsP r u v) (hx : IsP p x y) (h0 : 0 < r) (hq : q / r = p) (w : World) (hT : Tabs w) :
    Calls Tryz.prog 20 #[pV s t, pV u v] w (ValPost (.tuple #[pV x y, .int .i64 0]) w) := by
  refine (div_rat s t u v w ha.le.1 ha.le.2 hb.le.1 hb.le.2 hT).mono ?_
  rintro e w' ⟨x', y', n, rfl, h, hbb⟩
  rcases h with ⟨h, _⟩ | ⟨_, h⟩
  · rw [ha.oks hb] at h; cases h
  · rw [ha.rat, hb.rat] at h
    rcases h with ⟨h, _⟩ | ⟨_, h⟩
    · grind
    · obtain ⟨rfl, rfl, rfl⟩ := ans_to h hx hq
      exact ⟨rfl, hbb⟩
theorem div_none {q r : Rat} {s t u v : ByteArray} (ha : IsP q s t) (hb : IsP r u v) (h0 : r = 0) (w : World) (hT : Tabs w) :
    Calls Tryz.prog 20 #[pV s t, pV u v] w (ValPost (.tuple #[pV ⟨#[]⟩ ⟨#[]⟩, .int .i64 10]) w) := by
  refine (div_rat s t u v w ha.le.1 ha.le.2 hb.le.1 hb.le.2 hT).mono ?_
  rintro e w' ⟨x', y', n, rfl, h, hbb⟩
  rcases h with ⟨h, _⟩ | ⟨_, h⟩
  · rw [ha.oks hb] at h; cases h
  · rw [ha.rat, hb.rat] at h
    rcases h with ⟨_, rfl, rfl, rfl⟩ | ⟨h, _⟩
    · exact ⟨rfl, hbb⟩
    · grind
theorem cmp_to {q r : Rat} {n : Int} {s t u v : ByteArray} (ha : IsP q s t) (hb : IsP r u v) (hn : sgnR q r = n) (w : World) :
    Calls Tryz.prog 37 #[pV s t, pV u v] w (ValPost (.int .i64 n) w) := by
  refine (compare_rat s t u v w ha.le.1 ha.le.2 hb.le.1 hb.le.2).mono ?_
  rintro e w' ⟨m, rfl, h, hbb⟩
  rcases h with ⟨h, _⟩ | ⟨_, h⟩
  · rw [ha.oks hb] at h; cases h
  · rw [ha.rat, hb.rat, hn] at h
    subst h
    exact ⟨rfl, hbb⟩
theorem fits_isP {q : Rat} (h0 : 0 ≤ q) (h : Fits q) : ∃ x y, IsP q x y := ⟨_, _, h0, rfl, rfl, h⟩
theorem sz_isP {q : Rat} {k : Nat} (h0 : 0 ≤ q) (h : Sz k q) (hk : 0 < k) (hk2 : k ≤ 600) : ∃ x y, IsP q x y := fits_isP h0 (h.fits hk hk2)
theorem zero_num {q : Rat} {s t : ByteArray} (h : IsP q s t) (h0 : q = 0) : s = ⟨#[48]⟩ := by
  subst h0
  rw [h.num]
  decide +kernel
theorem num_none {q : Rat} {s t : ByteArray} (h : IsP q s t) (h0 : s = ⟨#[48]⟩) : q = 0 := by
  have h1 := h.vals.1
  rw [h0] at h1
  have h2 : decVal (⟨#[48]⟩ : ByteArray).data.toList = 0 := by decide
  rw [h2] at h1
  have h3 := num_toNat h.nn
  rw [← h1] at h3
  exact Rat.num_eq_zero.1 h3.symm
theorem pl_three (w : World) (s t u v x y : ByteArray) : PL (w.alloc (.cells #[.string s, .string t, .string u, .string v, .string x, .string y] 24)) (.slice (some ⟨w.heap.size, 0, none⟩) 3 3) [(s, t), (u, v), (x, y)] := by
  refine ⟨_, 3, rfl, Nat.le_refl _, by simp [maxLen], fun _ => ⟨_, 0, rfl, by simp, fun j hj => ?_⟩⟩
  match j, hj with
  | 0, _ => exact ⟨cell_new _ _ _ 0 rfl, cell_new _ _ _ 1 rfl⟩
  | 1, _ => exact ⟨cell_new _ _ _ 2 rfl, cell_new _ _ _ 3 rfl⟩
  | 2, _ => exact ⟨cell_new _ _ _ 4 rfl, cell_new _ _ _ 5 rfl⟩
  | j + 3, h => simp at h; try omega
theorem World.alloc_size (w : World) (o : Obj) : (w.alloc o).heap.size = w.heap.size + 1 := by simp
theorem Ats.three (w : World) (s t u v x y : ByteArray) : Ats [(w.heap.size + 1 + 1, x, y), (w.heap.size + 1, u, v), (w.heap.size, s, t)] (((w.alloc (pObj s t)).alloc (pObj u v)).alloc (pObj x y)) := by
  have h := (((Ats.nil w).push s t).push u v).push x y
  rw [World.alloc_size, World.alloc_size] at h
  exact h
end Go.Proofs.YthbpadjhlkdpeaaGreatDoor
