/- The parts DCover2, Env, LawDNames, LawDNamesLift of a proof, put together by program (merge6.py). -/
import Derived.Test.YtcncdepjbhnknaaGreatDoorK01
import Derived.Test.YtcncdepjbhnknaaGreatDoorH20
import Derived.Test.YtcncdepjbhnknaaGreatDoorH07
import Derived.Test.YtcncdepjbhnknaaGreatDoorH21
import Derived.Test.YtcncdepjbhnknaaGreatDoorJ06
import Derived.Test.YtcncdepjbhnknaaGreatDoorH22
set_option linter.unusedVariables false
set_option linter.unusedSimpArgs false
/- detect's Cover: the call; the document's Cover. -/
namespace Go.Proofs.YtcncdepjbhnknaaGreatDoor
open Go.RowKit Go.Shelf
attribute [local go_sem ↓] Go.wp_at_zero Go.wp_at_succ

theorem Boxes.five (w : World) (a b c d e : Obj) : Boxes w.heap.size [a, b, c, d, e] (((((w.alloc a).alloc b).alloc c).alloc d).alloc e) := (Boxes.four w a b c d).snoc (by simp) e
theorem bound_no {lo n hi : Int} (h : (decide (lo ≤ n) && decide (n ≤ hi)) = false) : ¬ (lo ≤ n ∧ n ≤ hi) := fun h2 => by
  rw [decide_eq_true h2.1, decide_eq_true h2.2] at h
  cases h
theorem bound_yes {lo n hi : Int} (h : (decide (lo ≤ n) && decide (n ≤ hi)) = true) : lo ≤ n ∧ n ≤ hi := by simpa using h
theorem coverA_no {p q r s : Int} (h : ¬ coverIn p q r s) : CoverA p q r s ⟨#[]⟩ ⟨#[]⟩ 2 := .inl ⟨h, rfl, rfl, rfl⟩
set_option maxRecDepth 100000 in
set_option maxHeartbeats 8000000 in
theorem dCover_any (p q r s : Int) (w : World) (hT : Tabs w) :
    Calls Tryz.prog 33 #[.int .i64 p, .int .i64 q, .int .i64 r, .int .i64 s] w (PartPost (CoverA p q r s) w) := by
  have HT := Lib.hid hT
  obtain ⟨w0, hw0⟩ : ∃ z, ((((w.alloc (nO p)).alloc (nO q)).alloc (nO r)).alloc (nO s)).alloc (pObj ⟨#[]⟩ ⟨#[]⟩) = z := ⟨_, rfl⟩
  have HX0 : Hid (Boxes w.heap.size [nO p, nO q, nO r, nO s, pObj ⟨#[]⟩ ⟨#[]⟩] w0) := by rw [← hw0]; exact Boxes.five w _ _ _ _ _
  have HB0 : Hid (Below w.heap.size w w0) := by rw [← hw0]; exact (((((Below.refl _ w).alloc (Nat.le_refl _) _).alloc (by simp) _).alloc (by simp <;> omega) _).alloc (by simp <;> omega) _).alloc (by simp <;> omega) _
  clear hT
  skip
  have a0 : w0.cell? ⟨w.heap.size, 0, none⟩ = some (.int .i64 p) := HX0.out.cell 0 0 rfl rfl rfl
  have b0 : w0.cell? ⟨w.heap.size + 1, 0, none⟩ = some (.int .i64 q) := HX0.out.cell 1 0 rfl rfl rfl
  have d0 : w0.cell? ⟨w.heap.size + 1 + 1, 0, none⟩ = some (.int .i64 r) := HX0.out.cell 2 0 rfl rfl rfl
  have e0 : w0.cell? ⟨w.heap.size + 1 + 1 + 1, 0, none⟩ = some (.int .i64 s) := HX0.out.cell 3 0 rfl rfl rfl
  have c0 : w0.cell? ⟨w.heap.size + 1 + 1 + 1 + 1, 0, none⟩ = some (.string ⟨#[]⟩) := HX0.out.cell 4 0 rfl rfl rfl
  have c1 : w0.cell? ⟨w.heap.size + 1 + 1 + 1 + 1, 1, none⟩ = some (.string ⟨#[]⟩) := HX0.out.cell 4 1 rfl rfl rfl
  have f0 : w0.frozen? ⟨w.heap.size + 1 + 1 + 1 + 1, 0, none⟩ = false := HX0.out.free 4 0 rfl rfl
  have f1 : w0.frozen? ⟨w.heap.size + 1 + 1 + 1 + 1, 1, none⟩ = false := HX0.out.free 4 1 rfl rfl
  go_enter Tryz.func33, Tryz.ntmps33
  skip
  go_wp2_with fail
  refine (within_any p 0 100000 _).mono ?_
  rintro e w1 ⟨rfl, hb⟩
  have HX1 := Lib.hid (HX0.out.below hb HX0.out.lt)
  have HB1 := Lib.hid (HB0.out.trans (hb.mono HB0.out.size))
  clear hb a0 b0 c0 d0 e0 c1 f0 f1
  skip
  have a0 : w1.cell? ⟨w.heap.size, 0, none⟩ = some (.int .i64 p) := HX1.out.cell 0 0 rfl rfl rfl
  have b0 : w1.cell? ⟨w.heap.size + 1, 0, none⟩ = some (.int .i64 q) := HX1.out.cell 1 0 rfl rfl rfl
  have d0 : w1.cell? ⟨w.heap.size + 1 + 1, 0, none⟩ = some (.int .i64 r) := HX1.out.cell 2 0 rfl rfl rfl
  have e0 : w1.cell? ⟨w.heap.size + 1 + 1 + 1, 0, none⟩ = some (.int .i64 s) := HX1.out.cell 3 0 rfl rfl rfl
  have c0 : w1.cell? ⟨w.heap.size + 1 + 1 + 1 + 1, 0, none⟩ = some (.string ⟨#[]⟩) := HX1.out.cell 4 0 rfl rfl rfl
  have c1 : w1.cell? ⟨w.heap.size + 1 + 1 + 1 + 1, 1, none⟩ = some (.string ⟨#[]⟩) := HX1.out.cell 4 1 rfl rfl rfl
  have f0 : w1.frozen? ⟨w.heap.size + 1 + 1 + 1 + 1, 0, none⟩ = false := HX1.out.free 4 0 rfl rfl
  have f1 : w1.frozen? ⟨w.heap.size + 1 + 1 + 1 + 1, 1, none⟩ = false := HX1.out.free 4 1 rfl rfl
  clear hw0
  cases hbt : (decide (0 ≤ p) && decide (p ≤ 100000))
  · have hno := bound_no hbt
    skip
    have HA : Hid (CoverA p q r s ⟨#[]⟩ ⟨#[]⟩ 2) := coverA_no (fun h => hno h.1)
    clear hbt
    go_wp2
    skip
    obtain ⟨q0, q1⟩ := two_put_cells (HX1.out.block 4 (b := w.heap.size + 1 + 1 + 1 + 1) rfl rfl) (.string ⟨#[]⟩) (.string ⟨#[]⟩)
    exact bodyPost_ret (v := .tuple #[.agg #[.string ⟨#[]⟩, .string ⟨#[]⟩], .int .i64 2]) (by simp [results, Tryz.f33, go_sem, q0, q1]) rfl ⟨⟨#[]⟩, ⟨#[]⟩, 2, rfl, HA.out, two_put_below HB1.out (by show _ ≤ _; omega) (.string ⟨#[]⟩) (.string ⟨#[]⟩)⟩
  · have HP := Lib.hid (bound_yes hbt)
    clear hbt
    skip
    go_wp2_with fail
    refine (within_any q 0 1048576 _).mono ?_
    rintro e w2 ⟨rfl, hb⟩
    have HX2 := Lib.hid (HX1.out.below hb HX1.out.lt)
    have HB2 := Lib.hid (HB1.out.trans (hb.mono HB1.out.size))
    clear hb a0 b0 c0 d0 e0 c1 f0 f1
    skip
    have a0 : w2.cell? ⟨w.heap.size, 0, none⟩ = some (.int .i64 p) := HX2.out.cell 0 0 rfl rfl rfl
    have b0 : w2.cell? ⟨w.heap.size + 1, 0, none⟩ = some (.int .i64 q) := HX2.out.cell 1 0 rfl rfl rfl
    have d0 : w2.cell? ⟨w.heap.size + 1 + 1, 0, none⟩ = some (.int .i64 r) := HX2.out.cell 2 0 rfl rfl rfl
    have e0 : w2.cell? ⟨w.heap.size + 1 + 1 + 1, 0, none⟩ = some (.int .i64 s) := HX2.out.cell 3 0 rfl rfl rfl
    have c0 : w2.cell? ⟨w.heap.size + 1 + 1 + 1 + 1, 0, none⟩ = some (.string ⟨#[]⟩) := HX2.out.cell 4 0 rfl rfl rfl
    have c1 : w2.cell? ⟨w.heap.size + 1 + 1 + 1 + 1, 1, none⟩ = some (.string ⟨#[]⟩) := HX2.out.cell 4 1 rfl rfl rfl
    have f0 : w2.frozen? ⟨w.heap.size + 1 + 1 + 1 + 1, 0, none⟩ = false := HX2.out.free 4 0 rfl rfl
    have f1 : w2.frozen? ⟨w.heap.size + 1 + 1 + 1 + 1, 1, none⟩ = false := HX2.out.free 4 1 rfl rfl
    cases hbt : (decide (0 ≤ q) && decide (q ≤ 1048576))
    · have hno := bound_no hbt
      skip
      have HA : Hid (CoverA p q r s ⟨#[]⟩ ⟨#[]⟩ 2) := coverA_no (fun h => hno h.2.1)
      clear hbt
      go_wp2
      skip
      obtain ⟨q0, q1⟩ := two_put_cells (HX2.out.block 4 (b := w.heap.size + 1 + 1 + 1 + 1) rfl rfl) (.string ⟨#[]⟩) (.string ⟨#[]⟩)
      exact bodyPost_ret (v := .tuple #[.agg #[.string ⟨#[]⟩, .string ⟨#[]⟩], .int .i64 2]) (by simp [results, Tryz.f33, go_sem, q0, q1]) rfl ⟨⟨#[]⟩, ⟨#[]⟩, 2, rfl, HA.out, two_put_below HB2.out (by show _ ≤ _; omega) (.string ⟨#[]⟩) (.string ⟨#[]⟩)⟩
    · have HQ := Lib.hid (bound_yes hbt)
      clear hbt
      skip
      go_wp2_with fail
      refine (within_any r 0 1048576 _).mono ?_
      rintro e w3 ⟨rfl, hb⟩
      have HX3 := Lib.hid (HX2.out.below hb HX2.out.lt)
      have HB3 := Lib.hid (HB2.out.trans (hb.mono HB2.out.size))
      clear hb a0 b0 c0 d0 e0 c1 f0 f1
      skip
      have a0 : w3.cell? ⟨w.heap.size, 0, none⟩ = some (.int .i64 p) := HX3.out.cell 0 0 rfl rfl rfl
      have b0 : w3.cell? ⟨w.heap.size + 1, 0, none⟩ = some (.int .i64 q) := HX3.out.cell 1 0 rfl rfl rfl
      have d0 : w3.cell? ⟨w.heap.size + 1 + 1, 0, none⟩ = some (.int .i64 r) := HX3.out.cell 2 0 rfl rfl rfl
      have e0 : w3.cell? ⟨w.heap.size + 1 + 1 + 1, 0, none⟩ = some (.int .i64 s) := HX3.out.cell 3 0 rfl rfl rfl
      have c0 : w3.cell? ⟨w.heap.size + 1 + 1 + 1 + 1, 0, none⟩ = some (.string ⟨#[]⟩) := HX3.out.cell 4 0 rfl rfl rfl
      have c1 : w3.cell? ⟨w.heap.size + 1 + 1 + 1 + 1, 1, none⟩ = some (.string ⟨#[]⟩) := HX3.out.cell 4 1 rfl rfl rfl
      have f0 : w3.frozen? ⟨w.heap.size + 1 + 1 + 1 + 1, 0, none⟩ = false := HX3.out.free 4 0 rfl rfl
      have f1 : w3.frozen? ⟨w.heap.size + 1 + 1 + 1 + 1, 1, none⟩ = false := HX3.out.free 4 1 rfl rfl
      cases hbt : (decide (0 ≤ r) && decide (r ≤ 1048576))
      · have hno := bound_no hbt
        skip
        have HA : Hid (CoverA p q r s ⟨#[]⟩ ⟨#[]⟩ 2) := coverA_no (fun h => hno h.2.2.1)
        clear hbt
        go_wp2
        skip
        obtain ⟨q0, q1⟩ := two_put_cells (HX3.out.block 4 (b := w.heap.size + 1 + 1 + 1 + 1) rfl rfl) (.string ⟨#[]⟩) (.string ⟨#[]⟩)
        exact bodyPost_ret (v := .tuple #[.agg #[.string ⟨#[]⟩, .string ⟨#[]⟩], .int .i64 2]) (by simp [results, Tryz.f33, go_sem, q0, q1]) rfl ⟨⟨#[]⟩, ⟨#[]⟩, 2, rfl, HA.out, two_put_below HB3.out (by show _ ≤ _; omega) (.string ⟨#[]⟩) (.string ⟨#[]⟩)⟩
      · have HR := Lib.hid (bound_yes hbt)
        clear hbt
        skip
        go_wp2_with fail
        refine (within_any s 1 1125899906842624 _).mono ?_
        rintro e w4 ⟨rfl, hb⟩
        have HX4 := Lib.hid (HX3.out.below hb HX3.out.lt)
        have HB4 := Lib.hid (HB3.out.trans (hb.mono HB3.out.size))
        clear hb a0 b0 c0 d0 e0 c1 f0 f1
        skip
        have a0 : w4.cell? ⟨w.heap.size, 0, none⟩ = some (.int .i64 p) := HX4.out.cell 0 0 rfl rfl rfl
        have b0 : w4.cell? ⟨w.heap.size + 1, 0, none⟩ = some (.int .i64 q) := HX4.out.cell 1 0 rfl rfl rfl
        have d0 : w4.cell? ⟨w.heap.size + 1 + 1, 0, none⟩ = some (.int .i64 r) := HX4.out.cell 2 0 rfl rfl rfl
        have e0 : w4.cell? ⟨w.heap.size + 1 + 1 + 1, 0, none⟩ = some (.int .i64 s) := HX4.out.cell 3 0 rfl rfl rfl
        have c0 : w4.cell? ⟨w.heap.size + 1 + 1 + 1 + 1, 0, none⟩ = some (.string ⟨#[]⟩) := HX4.out.cell 4 0 rfl rfl rfl
        have c1 : w4.cell? ⟨w.heap.size + 1 + 1 + 1 + 1, 1, none⟩ = some (.string ⟨#[]⟩) := HX4.out.cell 4 1 rfl rfl rfl
        have f0 : w4.frozen? ⟨w.heap.size + 1 + 1 + 1 + 1, 0, none⟩ = false := HX4.out.free 4 0 rfl rfl
        have f1 : w4.frozen? ⟨w.heap.size + 1 + 1 + 1 + 1, 1, none⟩ = false := HX4.out.free 4 1 rfl rfl
        cases hbt : (decide (1 ≤ s) && decide (s ≤ 1125899906842624))
        · have hno := bound_no hbt
          skip
          have HA : Hid (CoverA p q r s ⟨#[]⟩ ⟨#[]⟩ 2) := coverA_no (fun h => hno h.2.2.2)
          clear hbt
          go_wp2
          skip
          obtain ⟨q0, q1⟩ := two_put_cells (HX4.out.block 4 (b := w.heap.size + 1 + 1 + 1 + 1) rfl rfl) (.string ⟨#[]⟩) (.string ⟨#[]⟩)
          exact bodyPost_ret (v := .tuple #[.agg #[.string ⟨#[]⟩, .string ⟨#[]⟩], .int .i64 2]) (by simp [results, Tryz.f33, go_sem, q0, q1]) rfl ⟨⟨#[]⟩, ⟨#[]⟩, 2, rfl, HA.out, two_put_below HB4.out (by show _ ≤ _; omega) (.string ⟨#[]⟩) (.string ⟨#[]⟩)⟩
        · have HIN : Hid (coverIn p q r s) := ⟨HP.out, HQ.out, HR.out, bound_yes hbt⟩
          have hl4 := HX4.out.lt
          have HTR : Hid (Calls Tryz.prog 68 #[.func (.func 76) #[] #[.pointer (some ⟨w.heap.size, 0, none⟩), .pointer (some ⟨w.heap.size + 1, 0, none⟩), .pointer (some ⟨w.heap.size + 1 + 1 + 1, 0, none⟩), .pointer (some ⟨w.heap.size + 1 + 1, 0, none⟩)]] w4 (PartPost (ExactC (coverQ p q r s)) w4)) :=
            dtried_any (enters_of Tryz.func76 (by kernel_rfl) rfl) fun W hW => by
              have hx := HX4.out.below hW hl4
              have hbw := HB4.out.trans (hW.mono HB4.out.size)
              exact cover1_any w.heap.size (w.heap.size + 1) (w.heap.size + 1 + 1 + 1) (w.heap.size + 1 + 1) (hx.block 0 rfl rfl) (hx.block 1 rfl rfl) (hx.block 3 rfl rfl) (hx.block 2 rfl rfl) HIN.out (HT.out.below hbw (Nat.le_refl _))
          clear hbt
          go_wp2_with fail
          refine HTR.out.mono ?_
          rintro e w5 ⟨x, y, m, rfl, ⟨rfl, hA⟩, hb⟩
          have HA : Hid (CoverA p q r s x y 0) := .inr ⟨HIN.out, hA, rfl⟩
          have HX5 := Lib.hid (HX4.out.below hb hl4)
          have HB5 := Lib.hid (HB4.out.trans (hb.mono HB4.out.size))
          clear hb hA HTR hl4 a0 b0 c0 d0 e0 c1 f0 f1
          skip
          have a0 : w5.cell? ⟨w.heap.size, 0, none⟩ = some (.int .i64 p) := HX5.out.cell 0 0 rfl rfl rfl
          have b0 : w5.cell? ⟨w.heap.size + 1, 0, none⟩ = some (.int .i64 q) := HX5.out.cell 1 0 rfl rfl rfl
          have d0 : w5.cell? ⟨w.heap.size + 1 + 1, 0, none⟩ = some (.int .i64 r) := HX5.out.cell 2 0 rfl rfl rfl
          have e0 : w5.cell? ⟨w.heap.size + 1 + 1 + 1, 0, none⟩ = some (.int .i64 s) := HX5.out.cell 3 0 rfl rfl rfl
          have c0 : w5.cell? ⟨w.heap.size + 1 + 1 + 1 + 1, 0, none⟩ = some (.string ⟨#[]⟩) := HX5.out.cell 4 0 rfl rfl rfl
          have c1 : w5.cell? ⟨w.heap.size + 1 + 1 + 1 + 1, 1, none⟩ = some (.string ⟨#[]⟩) := HX5.out.cell 4 1 rfl rfl rfl
          have f0 : w5.frozen? ⟨w.heap.size + 1 + 1 + 1 + 1, 0, none⟩ = false := HX5.out.free 4 0 rfl rfl
          have f1 : w5.frozen? ⟨w.heap.size + 1 + 1 + 1 + 1, 1, none⟩ = false := HX5.out.free 4 1 rfl rfl
          go_wp2
          skip
          obtain ⟨q0, q1⟩ := two_put_cells (HX5.out.block 4 (b := w.heap.size + 1 + 1 + 1 + 1) rfl rfl) (.string x) (.string y)
          exact bodyPost_ret (v := .tuple #[.agg #[.string x, .string y], .int .i64 0]) (by simp [results, Tryz.f33, go_sem, q0, q1]) rfl ⟨x, y, 0, rfl, HA.out, two_put_below HB5.out (by show _ ≤ _; omega) (.string x) (.string y)⟩
end Go.Proofs.YtcncdepjbhnknaaGreatDoor
/- What a call knows of the world: nothing below its first block has turned; its own blocks and what they hold; beside them facts, each with the blocks that it hangs on. One fact for a whole walk. -/
namespace Go.Proofs.YtcncdepjbhnknaaGreatDoor
open Go.RowKit

/-- A fact of the world, and the blocks that it hangs on. -/
structure SP where
  P : World → Prop
  fp : Nat → Prop
  st : ∀ {w w' : World}, P w → Keeps fp w w' → P w'
structure Env (B : Nat) (w0 : World) (bs : List (Nat × Obj)) (ps : List SP) (w : World) : Prop where
  base : Below B w0 w
  own : B ≤ w.heap.size
  cells : ∀ (i : Nat) (p : Nat × Obj), bs[i]? = some p → B ≤ p.1 ∧ w.heap[p.1]? = some p.2
  apart : ∀ (i j : Nat) (p q : Nat × Obj), bs[i]? = some p → bs[j]? = some q → p.1 = q.1 → i = j
  props : ∀ (i : Nat) (q : SP), ps[i]? = some q → q.P w ∧ (∀ b, q.fp b → b < w.heap.size) ∧ (∀ (j : Nat) (p : Nat × Obj), bs[j]? = some p → ¬ q.fp p.1)

section
variable {B : Nat} {w0 w w' : World} {bs : List (Nat × Obj)} {ps : List SP}
theorem Env.start (w : World) : Env w.heap.size w [] [] w := ⟨Below.refl _ w, Nat.le_refl _, fun i p h => by simp at h, fun i j p q h => by simp at h, fun i q h => by simp at h⟩
theorem Env.after {C : Nat} (h : Env B w0 bs ps w) (hb : Below C w w') (hC : w.heap.size ≤ C) : Env B w0 bs ps w' where
  base := h.base.trans (hb.mono (Nat.le_trans h.own hC))
  own := Nat.le_trans h.own hb.size
  cells := fun i p hp => by
    obtain ⟨h1, h2⟩ := h.cells i p hp
    refine ⟨h1, ?_⟩
    rw [hb.block _ (Nat.lt_of_lt_of_le (Array.getElem?_eq_some_iff.1 h2).1 hC)]
    exact h2
  apart := h.apart
  props := fun i q hq => by
    obtain ⟨h1, h2, h3⟩ := h.props i q hq
    exact ⟨q.st h1 ⟨hb.os, hb.tape, hb.output, hb.size, fun k hk _ => hb.block k (by omega)⟩, fun b hb2 => Nat.lt_of_lt_of_le (h2 b hb2) hb.size, h3⟩
theorem Env.step (h : Env B w0 bs ps w) (hb : Below w.heap.size w w') : Env B w0 bs ps w' := h.after hb (Nat.le_refl _)
theorem Env.drew (h : Env B w0 bs ps w) : Env B w0 bs ps w.drew := h.step (Below.refl _ w).drew
theorem Env.push (h : Env B w0 bs ps w) (o : Obj) {g : Nat} (hg : g = w.heap.size) : Env B w0 ((g, o) :: bs) ps (w.alloc o) := by
  subst hg
  have hb : Below w.heap.size w (w.alloc o) := (Below.refl _ w).alloc (Nat.le_refl _) o
  have h' := h.step hb
  have hlt : ∀ (j : Nat) (p : Nat × Obj), bs[j]? = some p → p.1 < w.heap.size := fun j p hp => (Array.getElem?_eq_some_iff.1 (h.cells j p hp).2).1
  refine ⟨h'.base, h'.own, fun i p hp => ?_, fun i j p q hp hq e => ?_, fun i q hq => ?_⟩
  · cases i with
    | zero =>
      obtain rfl := Option.some.inj hp
      exact ⟨h.own, World.alloc_heap_new w o⟩
    | succ i => exact h'.cells i p (by simpa using hp)
  · cases i with
    | zero =>
      cases j with
      | zero => rfl
      | succ j =>
        obtain rfl := Option.some.inj hp
        have := hlt j q (by simpa using hq)
        simp only at e
        omega
    | succ i =>
      cases j with
      | zero =>
        obtain rfl := Option.some.inj hq
        have := hlt i p (by simpa using hp)
        simp only at e
        omega
      | succ j => rw [h.apart i j p q (by simpa using hp) (by simpa using hq) e]
  · obtain ⟨h1, h2, h3⟩ := h'.props i q hq
    refine ⟨h1, h2, fun j p hp hc => ?_⟩
    cases j with
    | zero =>
      obtain rfl := Option.some.inj hp
      have := (h.props i q hq).2.1 _ hc
      simp only at this
      omega
    | succ j => exact h3 j p (by simpa using hp) hc
theorem Env.block (h : Env B w0 bs ps w) (i : Nat) {g : Nat} {o : Obj} (hi : bs[i]? = some (g, o)) : w.heap[g]? = some o := (h.cells i _ hi).2
theorem Env.lt (h : Env B w0 bs ps w) (i : Nat) {g : Nat} {o : Obj} (hi : bs[i]? = some (g, o)) : g < w.heap.size := (Array.getElem?_eq_some_iff.1 (h.block i hi)).1
theorem Env.le (h : Env B w0 bs ps w) (i : Nat) {g : Nat} {o : Obj} (hi : bs[i]? = some (g, o)) : B ≤ g := (h.cells i _ hi).1
theorem Env.cell (h : Env B w0 bs ps w) (i j : Nat) {g : Nat} {cs : Array Value} {T : TypeId} {v : Value} (hi : bs[i]? = some (g, .cells cs T (0, 0))) (hv : cs[j]? = some v) : w.cell? ⟨g, j, none⟩ = some v := known_cell (h.block i hi) j hv
theorem Env.free (h : Env B w0 bs ps w) (i j : Nat) {g : Nat} {cs : Array Value} {T : TypeId} (hi : bs[i]? = some (g, .cells cs T (0, 0))) : w.frozen? ⟨g, j, none⟩ = false := known_frozen (h.block i hi) j
theorem Env.prop (h : Env B w0 bs ps w) (i : Nat) {q : SP} (hi : ps[i]? = some q) : q.P w := (h.props i q hi).1
/-- One of the call's own blocks is turned. -/
theorem Env.put (h : Env B w0 bs ps w) (i : Nat) {g : Nat} {o : Obj} (o' : Obj) (hi : bs[i]? = some (g, o)) (hw : w'.heap[g]? = some o') (hk : Keeps (fun b => b ≠ g) w w') : Env B w0 (bs.set i (g, o')) ps w' := by
  have hil : i < bs.length := (List.getElem?_eq_some_iff.1 hi).1
  have hget : ∀ (j : Nat) (p : Nat × Obj), (bs.set i (g, o'))[j]? = some p → (j = i ∧ p = (g, o')) ∨ (j ≠ i ∧ bs[j]? = some p) := fun j p hp => by
    by_cases e : j = i
    · subst e
      rw [List.getElem?_set_self hil] at hp
      exact .inl ⟨rfl, (Option.some.inj hp).symm⟩
    · rw [List.getElem?_set_ne (Ne.symm e)] at hp
      exact .inr ⟨e, hp⟩
  have hB : B ≤ g := h.le i hi
  refine ⟨h.base.trans ⟨hk.os, hk.tape, hk.output, hk.size, fun k hlt => hk.block k (by have := h.own; omega) (by omega)⟩, Nat.le_trans h.own hk.size, fun j p hp => ?_, fun j k p q hp hq e => ?_, fun j q hq => ?_⟩
  · rcases hget j p hp with ⟨rfl, rfl⟩ | ⟨hne, hp⟩
    · exact ⟨hB, hw⟩
    · obtain ⟨h1, h2⟩ := h.cells j p hp
      refine ⟨h1, ?_⟩
      rw [hk.block _ (Array.getElem?_eq_some_iff.1 h2).1 (fun e => hne (h.apart j i p _ hp hi e))]
      exact h2
  · rcases hget j p hp with ⟨e1, e2⟩ | ⟨hne, hp'⟩
    · rcases hget k q hq with ⟨e3, e4⟩ | ⟨hne2, hq'⟩
      · rw [e1, e3]
      · rw [e2] at e
        rw [e1]
        exact h.apart i k _ q hi hq' e
    · rcases hget k q hq with ⟨e3, e4⟩ | ⟨hne2, hq'⟩
      · rw [e4] at e
        rw [e3]
        exact h.apart j i p _ hp' hi e
      · exact h.apart j k p q hp' hq' e
  · obtain ⟨h1, h2, h3⟩ := h.props j q hq
    have hng : ¬ q.fp g := h3 i _ hi
    refine ⟨q.st h1 (hk.mono fun b _ hb e => hng (e ▸ hb)), fun b hb => Nat.lt_of_lt_of_le (h2 b hb) hk.size, fun k p hp hc => ?_⟩
    rcases hget k p hp with ⟨rfl, rfl⟩ | ⟨_, hp⟩
    · exact hng hc
    · exact h3 k p hp hc
/-- A store into a cell of an own block. -/
theorem Env.store (h : Env B w0 bs ps w) (i j : Nat) {g : Nat} {cs : Array Value} {T : TypeId} (v : Value) (hi : bs[i]? = some (g, .cells cs T (0, 0))) : Env B w0 (bs.set i (g, .cells (cs.set! j v) T (0, 0))) ps (w.setCell ⟨g, j, none⟩ v) :=
  h.put i (.cells (cs.set! j v) T (0, 0)) hi (Joins.block_setCell (h.block i hi) v) ((Keeps.refl _ w).setCell (by simp) v)
/-- One fact more: of blocks that are none of those that are listed. -/
theorem Env.know (h : Env B w0 bs ps w) (q : SP) (hq : q.P w) (hf : ∀ b, q.fp b → b < w.heap.size) (ha : ∀ (j : Nat) (p : Nat × Obj), bs[j]? = some p → ¬ q.fp p.1) : Env B w0 bs (q :: ps) w where
  base := h.base
  own := h.own
  cells := h.cells
  apart := h.apart
  props := fun i r hr => by
    cases i with
    | zero =>
      obtain rfl := Option.some.inj hr
      exact ⟨hq, hf, ha⟩
    | succ i => exact h.props i r (by simpa using hr)
/-- A fact of blocks that came behind a world in which all those that are listed were there. -/
theorem Env.learn (h : Env B w0 bs ps w) (hb : Below w.heap.size w w') (q : SP) (hq : q.P w') (hf : ∀ b, q.fp b → w.heap.size ≤ b ∧ b < w'.heap.size) : Env B w0 bs (q :: ps) w' :=
  (h.step hb).know q hq (fun b hb2 => (hf b hb2).2) fun j p hp hc => by
    have h1 := (hf _ hc).1
    have h2 := (Array.getElem?_eq_some_iff.1 (h.cells j p hp).2).1
    omega
theorem Env.tail {p : Nat × Obj} (h : Env B w0 (p :: bs) ps w) : Env B w0 bs ps w :=
  ⟨h.base, h.own, fun i q hq => h.cells (i + 1) q (by simpa using hq), fun i j p q hp hq e => by have := h.apart (i + 1) (j + 1) p q (by simpa using hp) (by simpa using hq) e; omega,
    fun i q hq => ⟨(h.props i q hq).1, (h.props i q hq).2.1, fun j p hp => (h.props i q hq).2.2 (j + 1) p (by simpa using hp)⟩⟩
/-- The first block, of two cells, is filled. -/
theorem Env.fill {g : Nat} {a b : Value} {T : TypeId} (h : Env B w0 ((g, .cells #[a, b] T (0, 0)) :: bs) ps w) (x y : Value) : Env B w0 ((g, .cells #[x, y] T (0, 0)) :: bs) ps ((w.setCell ⟨g, 0, none⟩ x).setCell ⟨g, 1, none⟩ y) :=
  h.put 0 (.cells #[x, y] T (0, 0)) rfl (two_put (h.block 0 rfl) x y) (((Keeps.refl _ w).setCell (by simp) x).setCell (by simp) y)
/-- A block more, which came behind a world. -/
theorem Env.laid (h : Env B w0 bs ps w) (hb : Below w.heap.size w w') {g : Nat} {o : Obj} (hg : w'.heap[g]? = some o) (hle : w.heap.size ≤ g) : Env B w0 ((g, o) :: bs) ps w' := by
  have h' := h.step hb
  have hlt : ∀ (j : Nat) (p : Nat × Obj), bs[j]? = some p → p.1 < w.heap.size := fun j p hp => (Array.getElem?_eq_some_iff.1 (h.cells j p hp).2).1
  refine ⟨h'.base, h'.own, fun i p hp => ?_, fun i j p q hp hq e => ?_, fun i q hq => ?_⟩
  · cases i with
    | zero =>
      obtain rfl := Option.some.inj hp
      exact ⟨Nat.le_trans h.own hle, hg⟩
    | succ i => exact h'.cells i p (by simpa using hp)
  · cases i with
    | zero =>
      cases j with
      | zero => rfl
      | succ j =>
        obtain rfl := Option.some.inj hp
        have := hlt j q (by simpa using hq)
        simp only at e
        omega
    | succ i =>
      cases j with
      | zero =>
        obtain rfl := Option.some.inj hq
        have := hlt i p (by simpa using hp)
        simp only at e
        omega
      | succ j => rw [h.apart i j p q (by simpa using hp) (by simpa using hq) e]
  · obtain ⟨h1, h2, h3⟩ := h'.props i q hq
    refine ⟨h1, h2, fun j p hp hc => ?_⟩
    cases j with
    | zero =>
      obtain rfl := Option.some.inj hp
      have := (h.props i q hq).2.1 _ hc
      simp only at this
      omega
    | succ j => exact h3 j p (by simpa using hp) hc
/-- The facts that are wanted alone. -/
theorem Env.only (h : Env B w0 bs ps w) (is : List Nat) (bs' : List (Nat × Obj)) (hb : bs' = is.filterMap (fun i => bs[i]?)) (hn : is.Nodup) : Env B w0 bs' ps w := by
  subst hb
  have hget : ∀ (k : Nat) (p : Nat × Obj), (is.filterMap (fun i => bs[i]?))[k]? = some p → ∃ i ∈ is, bs[i]? = some p := fun k p hp => by
    have := List.mem_of_getElem? hp
    rw [List.mem_filterMap] at this
    exact this
  refine ⟨h.base, h.own, fun i p hp => ?_, ?_, fun i q hq => ?_⟩
  · obtain ⟨j, _, hj⟩ := hget i p hp
    exact h.cells j p hj
  · have hp : (is.filterMap (fun i => bs[i]?)).Pairwise (fun a b => a.1 ≠ b.1) := by
      rw [List.pairwise_filterMap]
      refine List.Pairwise.imp ?_ hn
      intro a b hab p hp q hq e
      exact hab (h.apart a b p q hp hq e)
    intro i j p q h1 h2 e
    rcases Nat.lt_trichotomy i j with hlt | rfl | hlt
    · obtain ⟨l1, e1⟩ := List.getElem?_eq_some_iff.1 h1
      obtain ⟨l2, e2⟩ := List.getElem?_eq_some_iff.1 h2
      have := (List.pairwise_iff_getElem.1 hp) i j l1 l2 hlt
      rw [e1, e2] at this
      exact absurd e this
    · rfl
    · obtain ⟨l1, e1⟩ := List.getElem?_eq_some_iff.1 h1
      obtain ⟨l2, e2⟩ := List.getElem?_eq_some_iff.1 h2
      have := (List.pairwise_iff_getElem.1 hp) j i l2 l1 hlt
      rw [e1, e2] at this
      exact absurd e.symm this
  · obtain ⟨h1, h2, h3⟩ := h.props i q hq
    refine ⟨h1, h2, fun j p hp => ?_⟩
    obtain ⟨k, _, hk⟩ := hget j p hp
    exact h3 k p hk
end
end Go.Proofs.YtcncdepjbhnknaaGreatDoor
/- DetectNames' walk: by program (dnames.py). -/
namespace Go.Proofs.YtcncdepjbhnknaaGreatDoor
open Go.RowKit Go.Shelf
attribute [local go_sem ↓] Go.wp_at_zero Go.wp_at_succ

theorem ofn_71 (w : World) (hT : Tabs w) : Calls Tryz.prog 30 #[.int .i64 7, .int .i64 1] w (ValPost (pV ⟨#[55]⟩ ⟨#[49]⟩) w) :=
  of_is (a := 7) (b := 1) (by decide) (by decide) (by decide) (by decide +kernel) w hT
theorem ofn_21 (w : World) (hT : Tabs w) : Calls Tryz.prog 30 #[.int .i64 2, .int .i64 1] w (ValPost (pV ⟨#[50]⟩ ⟨#[49]⟩) w) :=
  of_is (a := 2) (b := 1) (by decide) (by decide) (by decide) (by decide +kernel) w hT
theorem ofn_45 (w : World) (hT : Tabs w) : Calls Tryz.prog 30 #[.int .i64 4, .int .i64 5] w (ValPost (pV ⟨#[52]⟩ ⟨#[53]⟩) w) :=
  of_is (a := 4) (b := 5) (by decide) (by decide) (by decide) (by decide +kernel) w hT
theorem ofn_01 (w : World) (hT : Tabs w) : Calls Tryz.prog 30 #[.int .i64 0, .int .i64 1] w (ValPost (pV ⟨#[48]⟩ ⟨#[49]⟩) w) :=
  of_is (a := 0) (b := 1) (by decide) (by decide) (by decide) (by decide +kernel) w hT
theorem ofn_14 (w : World) (hT : Tabs w) : Calls Tryz.prog 30 #[.int .i64 1, .int .i64 4] w (ValPost (pV ⟨#[49]⟩ ⟨#[52]⟩) w) :=
  of_is (a := 1) (b := 4) (by decide) (by decide) (by decide) (by decide +kernel) w hT
theorem ofn_34 (w : World) (hT : Tabs w) : Calls Tryz.prog 30 #[.int .i64 3, .int .i64 4] w (ValPost (pV ⟨#[51]⟩ ⟨#[52]⟩) w) :=
  of_is (a := 3) (b := 4) (by decide) (by decide) (by decide) (by decide +kernel) w hT
theorem oneSg_sl (w : World) : SL (w.alloc (.cells #[.int .i64 1, .int .i64 2, .int .i64 0, .int .i64 3, .int .i64 800] 30)) (.slice (some ⟨w.heap.size, 0, none⟩) 1 1) oneSg := by
  refine ⟨_, 1, rfl, Nat.le_refl _, by simp [maxLen], fun _ => ⟨_, 0, rfl, by simp, fun j hj => ?_⟩⟩
  match j, hj with
  | 0, _ => exact ⟨cell_new _ _ _ 0 rfl, cell_new _ _ _ 1 rfl, cell_new _ _ _ 2 rfl, cell_new _ _ _ 3 rfl, cell_new _ _ _ 4 rfl⟩
  | j + 1, h => simp at h; try omega
theorem badT_sl (w : World) : SL (w.alloc (.cells #[.int .i64 0, .int .i64 0, .int .i64 0, .int .i64 1, .int .i64 5, .int .i64 0, .int .i64 0, .int .i64 0, .int .i64 2, .int .i64 6] 30)) (.slice (some ⟨w.heap.size, 0, none⟩) 2 2) badT := by
  refine ⟨_, 2, rfl, Nat.le_refl _, by simp [maxLen], fun _ => ⟨_, 0, rfl, by simp, fun j hj => ?_⟩⟩
  match j, hj with
  | 0, _ => exact ⟨cell_new _ _ _ 0 rfl, cell_new _ _ _ 1 rfl, cell_new _ _ _ 2 rfl, cell_new _ _ _ 3 rfl, cell_new _ _ _ 4 rfl⟩
  | 1, _ => exact ⟨cell_new _ _ _ 5 rfl, cell_new _ _ _ 6 rfl, cell_new _ _ _ 7 rfl, cell_new _ _ _ 8 rfl, cell_new _ _ _ 9 rfl⟩
  | j + 2, h => simp at h; try omega
theorem badC_bl (w : World) : BL (w.alloc (.cells #[.string ⟨#[48]⟩, .string ⟨#[49]⟩, .string ⟨#[48]⟩, .string ⟨#[49]⟩, .string ⟨#[49]⟩, .string ⟨#[49]⟩, .string ⟨#[49]⟩, .string ⟨#[52]⟩, .string ⟨#[50]⟩, .string ⟨#[49]⟩, .string ⟨#[51]⟩, .string ⟨#[52]⟩] 56)) (.slice (some ⟨w.heap.size, 0, none⟩) 3 3) badC := by
  refine ⟨_, 3, rfl, Nat.le_refl _, by simp [maxLen], fun _ => ⟨_, 0, rfl, by simp, fun j hj => ?_⟩⟩
  match j, hj with
  | 0, _ => exact ⟨cell_new _ _ _ 0 rfl, cell_new _ _ _ 1 rfl, cell_new _ _ _ 2 rfl, cell_new _ _ _ 3 rfl⟩
  | 1, _ => exact ⟨cell_new _ _ _ 4 rfl, cell_new _ _ _ 5 rfl, cell_new _ _ _ 6 rfl, cell_new _ _ _ 7 rfl⟩
  | 2, _ => exact ⟨cell_new _ _ _ 8 rfl, cell_new _ _ _ 9 rfl, cell_new _ _ _ 10 rfl, cell_new _ _ _ 11 rfl⟩
  | j + 3, h => simp at h; try omega
theorem badC_lim : LimB badC := fun x hx => by
  simp only [badC, List.mem_cons, List.not_mem_nil, or_false] at hx
  rcases hx with rfl | rfl | rfl <;> exact ⟨⟨by decide, by decide⟩, by decide, by decide⟩
set_option maxRecDepth 100000 in
set_option maxHeartbeats 16000000 in
theorem names_law (w : World) (hD : DetV w) (hT : Tabs w) : Calls Tryz.prog 13 #[] w (BoolPost w true) := by
  have HT0 := Lib.hid hT
  have HD0 := Lib.hid hD
  clear hT hD
  go_enter Tryz.func13, Tryz.ntmps13
  go_wp2_with fail
  have HW := Lib.hid (fun W (h : SL W (.slice (some ⟨w.heap.size, 0, none⟩) 1 1) oneSg) => dWidth_any h 1 2 0 6)
  refine (HW.out _ (oneSg_sl w)).mono ?_
  rintro e w1 ⟨a, n, rfl, hA, hb⟩
  obtain ⟨rfl, rfl⟩ := names_a hA
  have HB1 : Hid (Below w.heap.size w w1) := ((Below.refl w.heap.size w).alloc (Nat.le_refl _) _).trans (hb.mono (by simp))
  clear hA hb HW
  go_wp2_with fail
  refine (dCover_any 1000 5000 3600 36000000 _ (HT0.out.below HB1.out (Nat.le_refl _))).mono ?_
  rintro e w2 ⟨x, y, n, rfl, hA, hb⟩
  obtain ⟨rfl, rfl, rfl⟩ := names_b hA
  obtain ⟨G0, hG0⟩ : ∃ g, w2.heap.size = g := ⟨_, rfl⟩
  obtain ⟨w3, hw3⟩ : ∃ z, w2.alloc (pObj ⟨#[49]⟩ ⟨#[50]⟩) = z := ⟨_, rfl⟩
  have HB3 : Hid (Below w.heap.size w w3) := by rw [← hw3]; exact (HB1.out.trans (hb.mono HB1.out.size)).alloc (Nat.le_trans HB1.out.size hb.size) _
  have HG3 : Hid (w3.heap[G0]? = some (pObj ⟨#[49]⟩ ⟨#[50]⟩)) := by rw [← hw3, ← hG0]; exact World.alloc_heap_new w2 _
  clear hA hb HB1
  go_wp2_with fail
  try rw [hG0]
  try rw [hw3]
  clear hG0 hw3
  refine (halving_any 2 _ (HD0.out.below HB3.out (Nat.le_refl _)) (HT0.out.below HB3.out (Nat.le_refl _))).mono ?_
  rintro e w4 ⟨hE, hb⟩
  have HB4 := Lib.hid (HB3.out.trans (hb.mono HB3.out.size))
  have HG4 := Lib.hid ((hb.block _ (Array.getElem?_eq_some_iff.1 HG3.out).1).trans HG3.out)
  obtain ⟨v, rfl, hO⟩ : ∃ v, e = .returned (.tuple #[v, .int .i64 0]) ∧ OwnB w4 w3.heap.size v (halvL 2) := by
    rcases hE with ⟨h, _⟩ | ⟨_, v, h1, h2⟩
    · exact absurd ⟨by decide, by decide⟩ h
    · exact ⟨v, h1, h2⟩
  have hV := hO.bl
  have hlen3 : (halvL 2).length = 3 := halvL_len 2
  obtain ⟨pq, cq, rfl⟩ : ∃ p c, v = .slice p 3 c := by obtain ⟨p, c, h, _⟩ := id hV; exact ⟨_, _, by rw [← hlen3]; exact h⟩
  have HV := Lib.hid hV
  have HT := Lib.hid (HT0.out.below HB4.out (Nat.le_refl _))
  have HD := Lib.hid (HD0.out.below HB4.out (Nat.le_refl _))
  have HE0 := Lib.hid (Env.start w4)
  clear hE hb hO hV HB3 HG3 HT0 HD0
  go_wp2_with fail
  refine (of_12 _ (HT.out.below HE0.out.base (Nat.le_refl _))).mono ?_
  rintro e w5 ⟨rfl, hb⟩
  have HE1 := Lib.hid (HE0.out.step hb)
  clear hb
  have HC := Lib.hid (dChance_any (s := ⟨#[49]⟩) (t := ⟨#[50]⟩) (HV.out.after HE1.out.base (Nat.le_refl _)) halv2_curve.lim (by decide) (by decide) (HD.out.below HE1.out.base (Nat.le_refl _)) (HT.out.below HE1.out.base (Nat.le_refl _)))
  go_wp2_with fail
  refine HC.out.mono ?_
  rintro e w6 ⟨x, y, n, rfl, hA, hb⟩
  obtain ⟨rfl, rfl, rfl⟩ := names_c hA
  have HE2 : Hid (Env w4.heap.size w4 [(w6.heap.size, pObj ⟨#[49]⟩ ⟨#[52]⟩)] [] (w6.alloc (pObj ⟨#[49]⟩ ⟨#[52]⟩))) := (HE1.out.step hb).push _ rfl
  clear hb hA HC
  go_wp2_with fail
  refine (ofn_71 _ (HT.out.below HE2.out.base (Nat.le_refl _))).mono ?_
  rintro e w7 ⟨rfl, hb⟩
  have HE3 := Lib.hid (HE2.out.step hb)
  clear hb
  have HC := Lib.hid (dChance_any (s := ⟨#[55]⟩) (t := ⟨#[49]⟩) (HV.out.after HE3.out.base (Nat.le_refl _)) halv2_curve.lim (by decide) (by decide) (HD.out.below HE3.out.base (Nat.le_refl _)) (HT.out.below HE3.out.base (Nat.le_refl _)))
  go_wp2_with fail
  refine HC.out.mono ?_
  rintro e w8 ⟨x, y, n, rfl, hA, hb⟩
  obtain ⟨rfl, rfl, rfl⟩ := names_d hA
  have HE4 : Hid (Env w4.heap.size w4 [(w8.heap.size, pObj ⟨#[51]⟩ ⟨#[52]⟩), (w6.heap.size, pObj ⟨#[49]⟩ ⟨#[52]⟩)] [] (w8.alloc (pObj ⟨#[51]⟩ ⟨#[52]⟩))) := (HE3.out.step hb).push _ rfl
  clear hb hA HC
  go_wp2_with fail
  refine (of_12 _ (HT.out.below HE4.out.base (Nat.le_refl _))).mono ?_
  rintro e w9 ⟨rfl, hb⟩
  have HE5 := Lib.hid (HE4.out.step hb)
  clear hb
  have HC := Lib.hid (dSlope_any (s := ⟨#[49]⟩) (t := ⟨#[50]⟩) (HV.out.after HE5.out.base (Nat.le_refl _)) halv2_curve.lim (by decide) (by decide) (HD.out.below HE5.out.base (Nat.le_refl _)) (HT.out.below HE5.out.base (Nat.le_refl _)))
  go_wp2_with fail
  refine HC.out.mono ?_
  rintro e w10 ⟨x, y, n, rfl, hA, hb⟩
  obtain ⟨rfl, rfl, rfl⟩ := names_e hA
  have HE6 : Hid (Env w4.heap.size w4 [(w10.heap.size, pObj ⟨#[49]⟩ ⟨#[50]⟩), (w8.heap.size, pObj ⟨#[51]⟩ ⟨#[52]⟩), (w6.heap.size, pObj ⟨#[49]⟩ ⟨#[52]⟩)] [] (w10.alloc (pObj ⟨#[49]⟩ ⟨#[50]⟩))) := (HE5.out.step hb).push _ rfl
  clear hb hA HC
  go_wp2_with fail
  refine (of_11 _ (HT.out.below HE6.out.base (Nat.le_refl _))).mono ?_
  rintro e w11 ⟨rfl, hb⟩
  have HE7 := Lib.hid (HE6.out.step hb)
  clear hb
  have HC := Lib.hid (dSlope_any (s := ⟨#[49]⟩) (t := ⟨#[49]⟩) (HV.out.after HE7.out.base (Nat.le_refl _)) halv2_curve.lim (by decide) (by decide) (HD.out.below HE7.out.base (Nat.le_refl _)) (HT.out.below HE7.out.base (Nat.le_refl _)))
  go_wp2_with fail
  refine HC.out.mono ?_
  rintro e w12 ⟨x, y, n, rfl, hA, hb⟩
  obtain ⟨rfl, rfl, rfl⟩ := names_f hA
  have HE8 : Hid (Env w4.heap.size w4 [(w12.heap.size, pObj ⟨#[49]⟩ ⟨#[52]⟩), (w10.heap.size, pObj ⟨#[49]⟩ ⟨#[50]⟩), (w8.heap.size, pObj ⟨#[51]⟩ ⟨#[52]⟩), (w6.heap.size, pObj ⟨#[49]⟩ ⟨#[52]⟩)] [] (w12.alloc (pObj ⟨#[49]⟩ ⟨#[52]⟩))) := (HE7.out.step hb).push _ rfl
  clear hb hA HC
  go_wp2_with fail
  refine (ofn_21 _ (HT.out.below HE8.out.base (Nat.le_refl _))).mono ?_
  rintro e w13 ⟨rfl, hb⟩
  have HE9 := Lib.hid (HE8.out.step hb)
  clear hb
  have HC := Lib.hid (dSlope_any (s := ⟨#[50]⟩) (t := ⟨#[49]⟩) (HV.out.after HE9.out.base (Nat.le_refl _)) halv2_curve.lim (by decide) (by decide) (HD.out.below HE9.out.base (Nat.le_refl _)) (HT.out.below HE9.out.base (Nat.le_refl _)))
  go_wp2_with fail
  refine HC.out.mono ?_
  rintro e w14 ⟨x, y, n, rfl, hA, hb⟩
  obtain ⟨rfl, rfl, rfl⟩ := names_g hA
  have HE10 : Hid (Env w4.heap.size w4 [(w14.heap.size, pObj ⟨#[48]⟩ ⟨#[49]⟩), (w12.heap.size, pObj ⟨#[49]⟩ ⟨#[52]⟩), (w10.heap.size, pObj ⟨#[49]⟩ ⟨#[50]⟩), (w8.heap.size, pObj ⟨#[51]⟩ ⟨#[52]⟩), (w6.heap.size, pObj ⟨#[49]⟩ ⟨#[52]⟩)] [] (w14.alloc (pObj ⟨#[48]⟩ ⟨#[49]⟩))) := (HE9.out.step hb).push _ rfl
  clear hb hA HC
  go_wp2_with fail
  refine (ofn_45 _ (HT.out.below HE10.out.base (Nat.le_refl _))).mono ?_
  rintro e w15 ⟨rfl, hb⟩
  have HE11 := Lib.hid (HE10.out.step hb)
  clear hb
  have HC := Lib.hid (dNeed_any (s := ⟨#[52]⟩) (t := ⟨#[53]⟩) (HV.out.after HE11.out.base (Nat.le_refl _)) halv2_curve.lim (by decide) (by decide) (HD.out.below HE11.out.base (Nat.le_refl _)) (HT.out.below HE11.out.base (Nat.le_refl _)))
  go_wp2_with fail
  refine HC.out.mono ?_
  rintro e w16 ⟨x, y, n, rfl, hA, hb⟩
  obtain ⟨rfl, rfl, rfl⟩ := names_h hA
  have HE12 : Hid (Env w4.heap.size w4 [(w16.heap.size, pObj ⟨#[]⟩ ⟨#[]⟩), (w14.heap.size, pObj ⟨#[48]⟩ ⟨#[49]⟩), (w12.heap.size, pObj ⟨#[49]⟩ ⟨#[52]⟩), (w10.heap.size, pObj ⟨#[49]⟩ ⟨#[50]⟩), (w8.heap.size, pObj ⟨#[51]⟩ ⟨#[52]⟩), (w6.heap.size, pObj ⟨#[49]⟩ ⟨#[52]⟩)] [] (w16.alloc (pObj ⟨#[]⟩ ⟨#[]⟩))) := (HE11.out.step hb).push _ rfl
  clear hb hA HC
  go_wp2_with fail
  refine (of_11 _ (HT.out.below HE12.out.base (Nat.le_refl _))).mono ?_
  rintro e w17 ⟨rfl, hb⟩
  have HE13 := Lib.hid (HE12.out.step hb)
  clear hb
  go_wp2_with fail
  refine (of_11 _ (HT.out.below HE13.out.base (Nat.le_refl _))).mono ?_
  rintro e w18 ⟨rfl, hb⟩
  have HE14 := Lib.hid (HE13.out.step hb)
  clear hb
  have HP := Lib.hid (pl_two w18 ⟨#[49]⟩ ⟨#[49]⟩ ⟨#[49]⟩ ⟨#[49]⟩)
  have HE15 := Lib.hid (HE14.out.push (.cells #[.string ⟨#[49]⟩, .string ⟨#[49]⟩, .string ⟨#[49]⟩, .string ⟨#[49]⟩] 46) rfl).tail
  have HC := Lib.hid (dMiss_any (HV.out.after HE15.out.base (Nat.le_refl _)) halv2_curve.lim HP.out (fun p hp => by simp only [List.mem_cons, List.not_mem_nil, or_false] at hp; rcases hp with rfl | rfl <;> exact ⟨by decide, by decide⟩) (HD.out.below HE15.out.base (Nat.le_refl _)) (HT.out.below HE15.out.base (Nat.le_refl _)))
  go_wp2_with fail
  refine HC.out.mono ?_
  rintro e w19 ⟨x, y, n, rfl, hA, hb⟩
  obtain ⟨rfl, rfl, rfl⟩ := names_i hA
  have HE16 : Hid (Env w4.heap.size w4 [(w19.heap.size, pObj ⟨#[49]⟩ ⟨#[52]⟩), (w16.heap.size, pObj ⟨#[]⟩ ⟨#[]⟩), (w14.heap.size, pObj ⟨#[48]⟩ ⟨#[49]⟩), (w12.heap.size, pObj ⟨#[49]⟩ ⟨#[52]⟩), (w10.heap.size, pObj ⟨#[49]⟩ ⟨#[50]⟩), (w8.heap.size, pObj ⟨#[51]⟩ ⟨#[52]⟩), (w6.heap.size, pObj ⟨#[49]⟩ ⟨#[52]⟩)] [] (w19.alloc (pObj ⟨#[49]⟩ ⟨#[52]⟩))) := (HE15.out.step hb).push _ rfl
  clear hb hA HC
  go_wp2_with fail
  refine (ofn_01 _ (HT.out.below HE16.out.base (Nat.le_refl _))).mono ?_
  rintro e w20 ⟨rfl, hb⟩
  have HE17 := Lib.hid (HE16.out.step hb)
  clear hb
  go_wp2_with fail
  refine (ofn_01 _ (HT.out.below HE17.out.base (Nat.le_refl _))).mono ?_
  rintro e w21 ⟨rfl, hb⟩
  have HE18 := Lib.hid (HE17.out.step hb)
  clear hb
  go_wp2_with fail
  refine (of_11 _ (HT.out.below HE18.out.base (Nat.le_refl _))).mono ?_
  rintro e w22 ⟨rfl, hb⟩
  have HE19 := Lib.hid (HE18.out.step hb)
  clear hb
  go_wp2_with fail
  refine (ofn_14 _ (HT.out.below HE19.out.base (Nat.le_refl _))).mono ?_
  rintro e w23 ⟨rfl, hb⟩
  have HE20 := Lib.hid (HE19.out.step hb)
  clear hb
  go_wp2_with fail
  refine (ofn_21 _ (HT.out.below HE20.out.base (Nat.le_refl _))).mono ?_
  rintro e w24 ⟨rfl, hb⟩
  have HE21 := Lib.hid (HE20.out.step hb)
  clear hb
  go_wp2_with fail
  refine (ofn_34 _ (HT.out.below HE21.out.base (Nat.le_refl _))).mono ?_
  rintro e w25 ⟨rfl, hb⟩
  have HE22 := Lib.hid (HE21.out.step hb)
  clear hb
  have HB := Lib.hid (badC_bl w25)
  have HE23 := Lib.hid (HE22.out.push (.cells #[.string ⟨#[48]⟩, .string ⟨#[49]⟩, .string ⟨#[48]⟩, .string ⟨#[49]⟩, .string ⟨#[49]⟩, .string ⟨#[49]⟩, .string ⟨#[49]⟩, .string ⟨#[52]⟩, .string ⟨#[50]⟩, .string ⟨#[49]⟩, .string ⟨#[51]⟩, .string ⟨#[52]⟩] 56) rfl).tail
  have HC := Lib.hid (checkCurve_any HB.out badC_lim (HD.out.below HE23.out.base (Nat.le_refl _)) (HT.out.below HE23.out.base (Nat.le_refl _)))
  go_wp2_with fail
  refine HC.out.mono ?_
  rintro e w26 ⟨n, rfl, hA, hb⟩
  obtain rfl := names_j hA
  have HE24 := Lib.hid (HE23.out.step hb)
  clear hb hA HC HB
  have HB := Lib.hid (badT_sl w26)
  have HE25 := Lib.hid (HE24.out.push (.cells #[.int .i64 0, .int .i64 0, .int .i64 0, .int .i64 1, .int .i64 5, .int .i64 0, .int .i64 0, .int .i64 0, .int .i64 2, .int .i64 6] 30) rfl).tail
  have HC := Lib.hid (checkTable_any HB.out)
  go_wp2_with fail
  refine HC.out.mono ?_
  rintro e w27 ⟨n, rfl, hA, hb⟩
  obtain rfl : n = 2 := by
    rcases hA with ⟨h, _⟩ | ⟨_, h⟩
    · exact absurd h names_k
    · exact h
  have HE26 := Lib.hid (HE25.out.step hb)
  clear hb hA HC HB
  have HS := Lib.hid (fun V (hV : Env w4.heap.size w4 [(w19.heap.size, pObj ⟨#[49]⟩ ⟨#[52]⟩), (w16.heap.size, pObj ⟨#[]⟩ ⟨#[]⟩), (w14.heap.size, pObj ⟨#[48]⟩ ⟨#[49]⟩), (w12.heap.size, pObj ⟨#[49]⟩ ⟨#[52]⟩), (w10.heap.size, pObj ⟨#[49]⟩ ⟨#[50]⟩), (w8.heap.size, pObj ⟨#[51]⟩ ⟨#[52]⟩), (w6.heap.size, pObj ⟨#[49]⟩ ⟨#[52]⟩)] [] V) => (⟨known_cell ((hV.base.block _ (Array.getElem?_eq_some_iff.1 HG4.out).1).trans HG4.out) 0 rfl, known_cell ((hV.base.block _ (Array.getElem?_eq_some_iff.1 HG4.out).1).trans HG4.out) 1 rfl⟩ : V.cell? ⟨G0, 0, none⟩ = some (.string ⟨#[49]⟩) ∧ V.cell? ⟨G0, 1, none⟩ = some (.string ⟨#[50]⟩)))
  go_wp2_with fail
  refine tsteps_plain [(true, 0), (false, 1), (true, 2), (true, 3), (true, 4), (true, 5), (true, 6), (true, 7), (true, 8), (false, 9), (true, 10), (true, 11), (true, 12), (true, 13), (false, 14), (true, 15), (true, 16), (true, 17), (true, 18), (false, 19), (true, 20), (true, 21), (true, 22), (true, 23), (false, 24), (true, 25), (true, 26), (true, 27), (true, 28), (false, 29), (true, 30), (true, 31), (true, 32), (true, 33), (false, 34), (true, 35), (true, 36), (true, 37), (true, 38), (true, 39), (true, 40), (true, 41), (true, 42), (false, 43), (true, 44), (true, 45), (true, 46), (true, 47), (true, 48), (true, 49), (true, 50), (true, 51), (true, 52), (true, 53), (true, 54)] (Env w4.heap.size w4 [(w19.heap.size, pObj ⟨#[49]⟩ ⟨#[52]⟩), (w16.heap.size, pObj ⟨#[]⟩ ⟨#[]⟩), (w14.heap.size, pObj ⟨#[48]⟩ ⟨#[49]⟩), (w12.heap.size, pObj ⟨#[49]⟩ ⟨#[52]⟩), (w10.heap.size, pObj ⟨#[49]⟩ ⟨#[50]⟩), (w8.heap.size, pObj ⟨#[51]⟩ ⟨#[52]⟩), (w6.heap.size, pObj ⟨#[49]⟩ ⟨#[52]⟩)] []) (fun _ => false)
    (by kernel_rfl) (by kernel_rfl) (by kernel_rfl) (fun _ _ => rfl) (fun _ _ o _ _ h => by cases o <;> exact h) HE26.out.drew ?_
  have HE27 := Lib.hid HE26.out.drew
  skip
  iterate 1
    refine steps_read _ rfl rfl (fun w' hS => by skip; go_simp; first | rfl | (rw [if_pos (by omega)])) ?_
    simp only [List.getElem_toArray, List.getElem_cons_succ, List.getElem_cons_zero, Act.put, List.setIfInBounds_toArray, List.set_cons_zero, List.set_cons_succ]
  skip
  refine steps_write rfl rfl fun K hK => ?_
  go_simp
  go_at_call 14
  have HEC := HE27
  refine (alive_any _ (HD.out.below HEC.out.base (Nat.le_refl _)) (HT.out.below HEC.out.base (Nat.le_refl _))).mono ?_
  rintro e w28 ⟨rfl, hb⟩
  have HE28 := Lib.hid (HE27.out.step hb)
  refine hK _ _ (.inr HE28.out) ?_
  clear hK K hb HEC
  skip
  iterate 7
    refine steps_read _ rfl rfl (fun w' hS => by obtain ⟨z0, z1⟩ := HS.out w' hS; have c0 := hS.cell 0 0 (v := .string ⟨#[49]⟩) rfl rfl; have d0 := hS.cell 0 1 (v := .string ⟨#[52]⟩) rfl rfl; have c1 := hS.cell 1 0 (v := .string ⟨#[]⟩) rfl rfl; have d1 := hS.cell 1 1 (v := .string ⟨#[]⟩) rfl rfl; have c2 := hS.cell 2 0 (v := .string ⟨#[48]⟩) rfl rfl; have d2 := hS.cell 2 1 (v := .string ⟨#[49]⟩) rfl rfl; have c3 := hS.cell 3 0 (v := .string ⟨#[49]⟩) rfl rfl; have d3 := hS.cell 3 1 (v := .string ⟨#[52]⟩) rfl rfl; have c4 := hS.cell 4 0 (v := .string ⟨#[49]⟩) rfl rfl; have d4 := hS.cell 4 1 (v := .string ⟨#[50]⟩) rfl rfl; have c5 := hS.cell 5 0 (v := .string ⟨#[51]⟩) rfl rfl; have d5 := hS.cell 5 1 (v := .string ⟨#[52]⟩) rfl rfl; have c6 := hS.cell 6 0 (v := .string ⟨#[49]⟩) rfl rfl; have d6 := hS.cell 6 1 (v := .string ⟨#[52]⟩) rfl rfl; go_simp; first | rfl | (rw [if_pos (by omega)])) ?_
    simp only [List.getElem_toArray, List.getElem_cons_succ, List.getElem_cons_zero, Act.put, List.setIfInBounds_toArray, List.set_cons_zero, List.set_cons_succ]
  skip
  refine steps_write rfl rfl fun K hK => ?_
  go_simp
  go_at_call 30
  have HEC := HE28
  refine (of_12 _ (HT.out.below HEC.out.base (Nat.le_refl _))).mono ?_
  rintro e w29 ⟨rfl, hb⟩
  have HE29 := Lib.hid (HE28.out.step hb)
  refine hK _ _ (.inr HE29.out) ?_
  clear hK K hb HEC
  skip
  iterate 4
    refine steps_read _ rfl rfl (fun w' hS => by obtain ⟨z0, z1⟩ := HS.out w' hS; have c0 := hS.cell 0 0 (v := .string ⟨#[49]⟩) rfl rfl; have d0 := hS.cell 0 1 (v := .string ⟨#[52]⟩) rfl rfl; have c1 := hS.cell 1 0 (v := .string ⟨#[]⟩) rfl rfl; have d1 := hS.cell 1 1 (v := .string ⟨#[]⟩) rfl rfl; have c2 := hS.cell 2 0 (v := .string ⟨#[48]⟩) rfl rfl; have d2 := hS.cell 2 1 (v := .string ⟨#[49]⟩) rfl rfl; have c3 := hS.cell 3 0 (v := .string ⟨#[49]⟩) rfl rfl; have d3 := hS.cell 3 1 (v := .string ⟨#[52]⟩) rfl rfl; have c4 := hS.cell 4 0 (v := .string ⟨#[49]⟩) rfl rfl; have d4 := hS.cell 4 1 (v := .string ⟨#[50]⟩) rfl rfl; have c5 := hS.cell 5 0 (v := .string ⟨#[51]⟩) rfl rfl; have d5 := hS.cell 5 1 (v := .string ⟨#[52]⟩) rfl rfl; have c6 := hS.cell 6 0 (v := .string ⟨#[49]⟩) rfl rfl; have d6 := hS.cell 6 1 (v := .string ⟨#[52]⟩) rfl rfl; go_simp; first | rfl | (rw [if_pos (by omega)])) ?_
    simp only [List.getElem_toArray, List.getElem_cons_succ, List.getElem_cons_zero, Act.put, List.setIfInBounds_toArray, List.set_cons_zero, List.set_cons_succ]
  skip
  refine steps_write rfl rfl fun K hK => ?_
  go_simp
  go_at_call 30
  have HEC := HE29
  refine (ofn_14 _ (HT.out.below HEC.out.base (Nat.le_refl _))).mono ?_
  rintro e w30 ⟨rfl, hb⟩
  have HE30 := Lib.hid (HE29.out.step hb)
  refine hK _ _ (.inr HE30.out) ?_
  clear hK K hb HEC
  skip
  iterate 4
    refine steps_read _ rfl rfl (fun w' hS => by obtain ⟨z0, z1⟩ := HS.out w' hS; have c0 := hS.cell 0 0 (v := .string ⟨#[49]⟩) rfl rfl; have d0 := hS.cell 0 1 (v := .string ⟨#[52]⟩) rfl rfl; have c1 := hS.cell 1 0 (v := .string ⟨#[]⟩) rfl rfl; have d1 := hS.cell 1 1 (v := .string ⟨#[]⟩) rfl rfl; have c2 := hS.cell 2 0 (v := .string ⟨#[48]⟩) rfl rfl; have d2 := hS.cell 2 1 (v := .string ⟨#[49]⟩) rfl rfl; have c3 := hS.cell 3 0 (v := .string ⟨#[49]⟩) rfl rfl; have d3 := hS.cell 3 1 (v := .string ⟨#[52]⟩) rfl rfl; have c4 := hS.cell 4 0 (v := .string ⟨#[49]⟩) rfl rfl; have d4 := hS.cell 4 1 (v := .string ⟨#[50]⟩) rfl rfl; have c5 := hS.cell 5 0 (v := .string ⟨#[51]⟩) rfl rfl; have d5 := hS.cell 5 1 (v := .string ⟨#[52]⟩) rfl rfl; have c6 := hS.cell 6 0 (v := .string ⟨#[49]⟩) rfl rfl; have d6 := hS.cell 6 1 (v := .string ⟨#[52]⟩) rfl rfl; go_simp; first | rfl | (rw [if_pos (by omega)])) ?_
    simp only [List.getElem_toArray, List.getElem_cons_succ, List.getElem_cons_zero, Act.put, List.setIfInBounds_toArray, List.set_cons_zero, List.set_cons_succ]
  skip
  refine steps_write rfl rfl fun K hK => ?_
  go_simp
  go_at_call 30
  have HEC := HE30
  refine (ofn_34 _ (HT.out.below HEC.out.base (Nat.le_refl _))).mono ?_
  rintro e w31 ⟨rfl, hb⟩
  have HE31 := Lib.hid (HE30.out.step hb)
  refine hK _ _ (.inr HE31.out) ?_
  clear hK K hb HEC
  skip
  iterate 4
    refine steps_read _ rfl rfl (fun w' hS => by obtain ⟨z0, z1⟩ := HS.out w' hS; have c0 := hS.cell 0 0 (v := .string ⟨#[49]⟩) rfl rfl; have d0 := hS.cell 0 1 (v := .string ⟨#[52]⟩) rfl rfl; have c1 := hS.cell 1 0 (v := .string ⟨#[]⟩) rfl rfl; have d1 := hS.cell 1 1 (v := .string ⟨#[]⟩) rfl rfl; have c2 := hS.cell 2 0 (v := .string ⟨#[48]⟩) rfl rfl; have d2 := hS.cell 2 1 (v := .string ⟨#[49]⟩) rfl rfl; have c3 := hS.cell 3 0 (v := .string ⟨#[49]⟩) rfl rfl; have d3 := hS.cell 3 1 (v := .string ⟨#[52]⟩) rfl rfl; have c4 := hS.cell 4 0 (v := .string ⟨#[49]⟩) rfl rfl; have d4 := hS.cell 4 1 (v := .string ⟨#[50]⟩) rfl rfl; have c5 := hS.cell 5 0 (v := .string ⟨#[51]⟩) rfl rfl; have d5 := hS.cell 5 1 (v := .string ⟨#[52]⟩) rfl rfl; have c6 := hS.cell 6 0 (v := .string ⟨#[49]⟩) rfl rfl; have d6 := hS.cell 6 1 (v := .string ⟨#[52]⟩) rfl rfl; go_simp; first | rfl | (rw [if_pos (by omega)])) ?_
    simp only [List.getElem_toArray, List.getElem_cons_succ, List.getElem_cons_zero, Act.put, List.setIfInBounds_toArray, List.set_cons_zero, List.set_cons_succ]
  skip
  refine steps_write rfl rfl fun K hK => ?_
  go_simp
  go_at_call 30
  have HEC := HE31
  refine (of_12 _ (HT.out.below HEC.out.base (Nat.le_refl _))).mono ?_
  rintro e w32 ⟨rfl, hb⟩
  have HE32 := Lib.hid (HE31.out.step hb)
  refine hK _ _ (.inr HE32.out) ?_
  clear hK K hb HEC
  skip
  iterate 4
    refine steps_read _ rfl rfl (fun w' hS => by obtain ⟨z0, z1⟩ := HS.out w' hS; have c0 := hS.cell 0 0 (v := .string ⟨#[49]⟩) rfl rfl; have d0 := hS.cell 0 1 (v := .string ⟨#[52]⟩) rfl rfl; have c1 := hS.cell 1 0 (v := .string ⟨#[]⟩) rfl rfl; have d1 := hS.cell 1 1 (v := .string ⟨#[]⟩) rfl rfl; have c2 := hS.cell 2 0 (v := .string ⟨#[48]⟩) rfl rfl; have d2 := hS.cell 2 1 (v := .string ⟨#[49]⟩) rfl rfl; have c3 := hS.cell 3 0 (v := .string ⟨#[49]⟩) rfl rfl; have d3 := hS.cell 3 1 (v := .string ⟨#[52]⟩) rfl rfl; have c4 := hS.cell 4 0 (v := .string ⟨#[49]⟩) rfl rfl; have d4 := hS.cell 4 1 (v := .string ⟨#[50]⟩) rfl rfl; have c5 := hS.cell 5 0 (v := .string ⟨#[51]⟩) rfl rfl; have d5 := hS.cell 5 1 (v := .string ⟨#[52]⟩) rfl rfl; have c6 := hS.cell 6 0 (v := .string ⟨#[49]⟩) rfl rfl; have d6 := hS.cell 6 1 (v := .string ⟨#[52]⟩) rfl rfl; go_simp; first | rfl | (rw [if_pos (by omega)])) ?_
    simp only [List.getElem_toArray, List.getElem_cons_succ, List.getElem_cons_zero, Act.put, List.setIfInBounds_toArray, List.set_cons_zero, List.set_cons_succ]
  skip
  refine steps_write rfl rfl fun K hK => ?_
  go_simp
  go_at_call 30
  have HEC := HE32
  refine (ofn_14 _ (HT.out.below HEC.out.base (Nat.le_refl _))).mono ?_
  rintro e w33 ⟨rfl, hb⟩
  have HE33 := Lib.hid (HE32.out.step hb)
  refine hK _ _ (.inr HE33.out) ?_
  clear hK K hb HEC
  skip
  iterate 4
    refine steps_read _ rfl rfl (fun w' hS => by obtain ⟨z0, z1⟩ := HS.out w' hS; have c0 := hS.cell 0 0 (v := .string ⟨#[49]⟩) rfl rfl; have d0 := hS.cell 0 1 (v := .string ⟨#[52]⟩) rfl rfl; have c1 := hS.cell 1 0 (v := .string ⟨#[]⟩) rfl rfl; have d1 := hS.cell 1 1 (v := .string ⟨#[]⟩) rfl rfl; have c2 := hS.cell 2 0 (v := .string ⟨#[48]⟩) rfl rfl; have d2 := hS.cell 2 1 (v := .string ⟨#[49]⟩) rfl rfl; have c3 := hS.cell 3 0 (v := .string ⟨#[49]⟩) rfl rfl; have d3 := hS.cell 3 1 (v := .string ⟨#[52]⟩) rfl rfl; have c4 := hS.cell 4 0 (v := .string ⟨#[49]⟩) rfl rfl; have d4 := hS.cell 4 1 (v := .string ⟨#[50]⟩) rfl rfl; have c5 := hS.cell 5 0 (v := .string ⟨#[51]⟩) rfl rfl; have d5 := hS.cell 5 1 (v := .string ⟨#[52]⟩) rfl rfl; have c6 := hS.cell 6 0 (v := .string ⟨#[49]⟩) rfl rfl; have d6 := hS.cell 6 1 (v := .string ⟨#[52]⟩) rfl rfl; go_simp; first | rfl | (rw [if_pos (by omega)])) ?_
    simp only [List.getElem_toArray, List.getElem_cons_succ, List.getElem_cons_zero, Act.put, List.setIfInBounds_toArray, List.set_cons_zero, List.set_cons_succ]
  skip
  refine steps_write rfl rfl fun K hK => ?_
  go_simp
  go_at_call 30
  have HEC := HE33
  refine (ofn_01 _ (HT.out.below HEC.out.base (Nat.le_refl _))).mono ?_
  rintro e w34 ⟨rfl, hb⟩
  have HE34 := Lib.hid (HE33.out.step hb)
  refine hK _ _ (.inr HE34.out) ?_
  clear hK K hb HEC
  skip
  iterate 8
    refine steps_read _ rfl rfl (fun w' hS => by obtain ⟨z0, z1⟩ := HS.out w' hS; have c0 := hS.cell 0 0 (v := .string ⟨#[49]⟩) rfl rfl; have d0 := hS.cell 0 1 (v := .string ⟨#[52]⟩) rfl rfl; have c1 := hS.cell 1 0 (v := .string ⟨#[]⟩) rfl rfl; have d1 := hS.cell 1 1 (v := .string ⟨#[]⟩) rfl rfl; have c2 := hS.cell 2 0 (v := .string ⟨#[48]⟩) rfl rfl; have d2 := hS.cell 2 1 (v := .string ⟨#[49]⟩) rfl rfl; have c3 := hS.cell 3 0 (v := .string ⟨#[49]⟩) rfl rfl; have d3 := hS.cell 3 1 (v := .string ⟨#[52]⟩) rfl rfl; have c4 := hS.cell 4 0 (v := .string ⟨#[49]⟩) rfl rfl; have d4 := hS.cell 4 1 (v := .string ⟨#[50]⟩) rfl rfl; have c5 := hS.cell 5 0 (v := .string ⟨#[51]⟩) rfl rfl; have d5 := hS.cell 5 1 (v := .string ⟨#[52]⟩) rfl rfl; have c6 := hS.cell 6 0 (v := .string ⟨#[49]⟩) rfl rfl; have d6 := hS.cell 6 1 (v := .string ⟨#[52]⟩) rfl rfl; go_simp; first | rfl | (rw [if_pos (by omega)])) ?_
    simp only [List.getElem_toArray, List.getElem_cons_succ, List.getElem_cons_zero, Act.put, List.setIfInBounds_toArray, List.set_cons_zero, List.set_cons_succ]
  skip
  refine steps_write rfl rfl fun K hK => ?_
  go_simp
  go_at_call 30
  have HEC := HE34
  refine (ofn_14 _ (HT.out.below HEC.out.base (Nat.le_refl _))).mono ?_
  rintro e w35 ⟨rfl, hb⟩
  have HE35 := Lib.hid (HE34.out.step hb)
  refine hK _ _ (.inr HE35.out) ?_
  clear hK K hb HEC
  skip
  iterate 11
    refine steps_read _ rfl rfl (fun w' hS => by obtain ⟨z0, z1⟩ := HS.out w' hS; have c0 := hS.cell 0 0 (v := .string ⟨#[49]⟩) rfl rfl; have d0 := hS.cell 0 1 (v := .string ⟨#[52]⟩) rfl rfl; have c1 := hS.cell 1 0 (v := .string ⟨#[]⟩) rfl rfl; have d1 := hS.cell 1 1 (v := .string ⟨#[]⟩) rfl rfl; have c2 := hS.cell 2 0 (v := .string ⟨#[48]⟩) rfl rfl; have d2 := hS.cell 2 1 (v := .string ⟨#[49]⟩) rfl rfl; have c3 := hS.cell 3 0 (v := .string ⟨#[49]⟩) rfl rfl; have d3 := hS.cell 3 1 (v := .string ⟨#[52]⟩) rfl rfl; have c4 := hS.cell 4 0 (v := .string ⟨#[49]⟩) rfl rfl; have d4 := hS.cell 4 1 (v := .string ⟨#[50]⟩) rfl rfl; have c5 := hS.cell 5 0 (v := .string ⟨#[51]⟩) rfl rfl; have d5 := hS.cell 5 1 (v := .string ⟨#[52]⟩) rfl rfl; have c6 := hS.cell 6 0 (v := .string ⟨#[49]⟩) rfl rfl; have d6 := hS.cell 6 1 (v := .string ⟨#[52]⟩) rfl rfl; go_simp; first | rfl | (rw [if_pos (by omega)])) ?_
    simp only [List.getElem_toArray, List.getElem_cons_succ, List.getElem_cons_zero, Act.put, List.setIfInBounds_toArray, List.set_cons_zero, List.set_cons_succ]
  refine steps_end ?_
  go_wp2
  go_ret
  exact ⟨rfl, HB4.out.trans (HE35.out.base.mono HB4.out.size)⟩
end Go.Proofs.YtcncdepjbhnknaaGreatDoor
/- DetectNames: for no argument the law returns true and each argument reads behind the call as it read before: the row without its closed facts. Conditions: the package-level variables that the row lists start as the text of the program lays them (the tie is given, over the pruned copy); the row is unfollowed and recurses. -/
namespace Go.Proofs.YtcncdepjbhnknaaGreatDoor
open Go.ChangeShapes Go.WideShapes Go.ChangeAt Go.RowKit

set_option maxRecDepth 100000 in
theorem names_lifted (os : Os) (started : os.Started) (H : Type) (enc : TypeId × Value → H) :
    ReturnsInHanded {} Tryz.checked os 13 .any (fun w args => (Rows.detectNamesSpec.pre enc Tryz.prog Tryz.f13 Rows.detectNamesRow.domain false w args ∧ laidMetH Tryz.prog laid9 w) ∧ sizedMet enc Tryz.prog Tryz.f13 (OpenSpec.ofChange Rows.detectNamesSpec) false w args)
      (Rows.detectNamesSpec.post enc Tryz.prog Tryz.f13 false true false false) := by
  refine returnsInHanded_of_change_and (C := Tryz.checked) (X := fun w _ => laidMetH Tryz.prog laid9 w) (fun _ _ _ hh h => h.of_heap hh) own_seat started (by kernel_rfl) Tryz.func13
    (ChangeSpec.witness_shaped (enc := enc) (C := Tryz.checked) (os := os) (X := fun w _ => laidMetH Tryz.prog laid9 w) false (World.laidAll Tryz.prog os laid9) #[] 8 (World.laidAll_os _ _ _)
      (World.shaped_of_ZipB (by kernel_rfl) (by kernel_rfl)) (by kernel_rfl) (by kernel_rfl) (by kernel_rfl) (met9 os _)) ?_
  intro W base args ds gs before hval0 hW hc _ hL _
  have hval : ∀ (j : Nat) t v, Tryz.f13.params[j]? = some t → args[j]? = some v → Value.okWide Tryz.prog W .any base t v := hval0
  have hW' := hW
  obtain ⟨p, q, hA0, hV, rfl, _, _⟩ := hW
  have hA : DataW.TrodAll enc Tryz.prog W 0 (fun _ => true) true Tryz.f13.params.toList args.toList ds p := hA0
  rw [Tryz.params13] at hA hval
  obtain ⟨rfl, rfl, rfl⟩ := trodAll_none hA
  obtain ⟨rfl, rfl⟩ := trodVars_none hV
  clear hA0 hval0
  simp only [List.append_nil] at hW'
  refine (names_law W (detV_of_laid9 hL) (tabs_of_laid9 hL)).mono fun e W' ⟨he, bel⟩ => ?_
  subst he
  have nx : ∀ x ∈ ([] : List MemPlace), x.block < W.heap.size := fun _ h => by cases h
  refine ⟨_, rfl, _, _, _, [], [], [], hW', ?_, ?_, ?_, bel.frame _, fun h => by cases h⟩
  · exact trodAll_mk1 (shut_bool Tryz.underlying4 _)
  · exact hA
  · rfl
end Go.Proofs.YtcncdepjbhnknaaGreatDoor
