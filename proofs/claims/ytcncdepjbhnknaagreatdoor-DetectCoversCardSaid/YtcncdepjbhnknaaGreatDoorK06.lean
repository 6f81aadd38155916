/- The parts DOps, CoverM, DCover, DCover2, DCover3, LawCovers, LawCoversLift of a proof, put together by program (merge6.py). -/
import Derived.Test.YtcncdepjbhnknaaGreatDoorH12
import Derived.Test.YtcncdepjbhnknaaGreatDoorK05
import Derived.Test.YtcncdepjbhnknaaGreatDoorK02
import Derived.Test.YtcncdepjbhnknaaGreatDoorK03
import Derived.Test.YtcncdepjbhnknaaGreatDoorH17
import Derived.Test.YtcncdepjbhnknaaGreatDoorH19
import Derived.Test.YtcncdepjbhnknaaGreatDoorH15
import Derived.Test.YtcncdepjbhnknaaGreatDoorH20
import Derived.Test.YtcncdepjbhnknaaGreatDoorH21
import Derived.Test.YtcncdepjbhnknaaGreatDoorH22
set_option linter.unusedVariables false
set_option linter.unusedSimpArgs false
/- Layer 6: the document's operations upon known fractions; its small, deep, Sure, in, slope. -/
namespace Go.Proofs.YtcncdepjbhnknaaGreatDoor
open Go.RowKit Go.Shelf
attribute [local go_sem ↓] Go.wp_at_zero Go.wp_at_succ

set_option maxRecDepth 100000 in
theorem rzero_any (w : World) : Calls Tryz.prog 87 #[] w (ValPost (pV ⟨#[48]⟩ ⟨#[49]⟩) w) := by
  go_enter Tryz.func87, Tryz.ntmps87
  go_wp2
  have HB1 : Hid (Below w.heap.size w (w.alloc (pObj ⟨#[48]⟩ ⟨#[49]⟩))) := (Below.refl _ w).alloc (Nat.le_refl _) _
  have c0 := cell_new w #[.string ⟨#[48]⟩, .string ⟨#[49]⟩] 46 0 rfl
  have c1 := cell_new w #[.string ⟨#[48]⟩, .string ⟨#[49]⟩] 46 1 rfl
  refine bodyPost_ret (v := pV ⟨#[48]⟩ ⟨#[49]⟩) (by simp [results, Tryz.f87, go_sem, c0, c1]) rfl ⟨rfl, HB1.out⟩
theorem radd_to {q r p : Rat} {s t u v x y : ByteArray} (ha : IsP q s t) (hb : IsP r u v) (hx : IsP p x y) (hq : q + r = p) (w : World) :
    Calls Tryz.prog 83 #[pV s t, pV u v] w (ValPost (.tuple #[pV x y, .int .i64 0]) w) := by
  refine (radd_rat s t u v w ha.le.1 ha.le.2 hb.le.1 hb.le.2).mono ?_
  rintro e w' ⟨x', y', n, rfl, h, hbb⟩
  rcases h with ⟨h, _⟩ | ⟨_, h⟩
  · rw [ha.oks hb] at h; cases h
  · rw [ha.rat, hb.rat] at h
    obtain ⟨rfl, rfl, rfl⟩ := ans_to h hx hq
    exact ⟨rfl, hbb⟩
theorem rmul_to {q r p : Rat} {s t u v x y : ByteArray} (ha : IsP q s t) (hb : IsP r u v) (hx : IsP p x y) (hq : q * r = p) (w : World) :
    Calls Tryz.prog 78 #[pV s t, pV u v] w (ValPost (.tuple #[pV x y, .int .i64 0]) w) := by
  refine (rmul_rat s t u v w ha.le.1 ha.le.2 hb.le.1 hb.le.2).mono ?_
  rintro e w' ⟨x', y', n, rfl, h, hbb⟩
  rcases h with ⟨h, _⟩ | ⟨_, h⟩
  · rw [ha.oks hb] at h; cases h
  · rw [ha.rat, hb.rat] at h
    obtain ⟨rfl, rfl, rfl⟩ := ans_to h hx hq
    exact ⟨rfl, hbb⟩
theorem rsub_to {q r p : Rat} {s t u v x y : ByteArray} (ha : IsP q s t) (hb : IsP r u v) (hx : IsP p x y) (hq : q - r = p) (w : World) :
    Calls Tryz.prog 82 #[pV s t, pV u v] w (ValPost (.tuple #[pV x y, .int .i64 0]) w) := by
  refine (rsub_rat s t u v w ha.le.1 ha.le.2 hb.le.1 hb.le.2).mono ?_
  rintro e w' ⟨x', y', n, rfl, h, hbb⟩
  rcases h with ⟨h, _⟩ | ⟨_, h⟩
  · rw [ha.oks hb] at h; cases h
  · rw [ha.rat, hb.rat] at h
    rcases h with ⟨h, _⟩ | ⟨_, h⟩
    · have := hx.nn; grind
    · obtain ⟨rfl, rfl, rfl⟩ := ans_to h hx hq
      exact ⟨rfl, hbb⟩
theorem rdiv_to {q r p : Rat} {s t u v x y : ByteArray} (ha : IsP q s t) (hb : IsP r u v) (hx : IsP p x y) (h0 : 0 < r) (hq : q / r = p) (w : World) :
    Calls Tryz.prog 89 #[pV s t, pV u v] w (ValPost (.tuple #[pV x y, .int .i64 0]) w) := by
  refine (rdiv_rat s t u v w ha.le.1 ha.le.2 hb.le.1 hb.le.2).mono ?_
  rintro e w' ⟨x', y', n, rfl, h, hbb⟩
  rcases h with ⟨h, _⟩ | ⟨_, h⟩
  · rw [ha.oks hb] at h; cases h
  · rw [ha.rat, hb.rat] at h
    rcases h with ⟨h, _⟩ | ⟨_, h⟩
    · grind
    · obtain ⟨rfl, rfl, rfl⟩ := ans_to h hx hq
      exact ⟨rfl, hbb⟩
theorem rcmp_to {q r : Rat} {n : Int} {s t u v : ByteArray} (ha : IsP q s t) (hb : IsP r u v) (hn : sgnR q r = n) (w : World) :
    Calls Tryz.prog 88 #[pV s t, pV u v] w (ValPost (.int .i64 n) w) := by
  refine (rcompare_rat s t u v w ha.le.1 ha.le.2 hb.le.1 hb.le.2).mono ?_
  rintro e w' ⟨m, rfl, h, hbb⟩
  rcases h with ⟨h, _⟩ | ⟨_, h⟩
  · rw [ha.oks hb] at h; cases h
  · rw [ha.rat, hb.rat, hn] at h
    subst h
    exact ⟨rfl, hbb⟩
set_option maxRecDepth 100000 in
theorem rsure_any (s t : ByteArray) (n : Int) (w : World) : Calls Tryz.prog 81 #[pV s t, .int .i64 n] w (ValPost (pV s t) w) := by
  go_enter Tryz.func81, Tryz.ntmps81
  go_wp2
  have HB1 : Hid (Below w.heap.size w ((w.alloc (pObj s t)).alloc (pObj s t))) := ((Below.refl _ w).alloc (Nat.le_refl _) _).alloc (by simp) _
  have c0 := cell_new (w.alloc (pObj s t)) #[.string s, .string t] 46 (b := w.heap.size + 1) 0 (by simp)
  have c1 := cell_new (w.alloc (pObj s t)) #[.string s, .string t] 46 (b := w.heap.size + 1) 1 (by simp)
  refine bodyPost_ret (v := pV s t) (by simp [results, Tryz.f81, go_sem, c0, c1]) rfl ⟨rfl, ?_⟩
  first | exact HB1.out | (have h := HB1.out; simpa using h)
set_option maxRecDepth 100000 in
theorem rin_any (n low high : Int) (w : World) : Calls Tryz.prog 51 #[.int .i64 n, .int .i64 low, .int .i64 high] w (BoolPost w (decide (low ≤ n) && decide (n ≤ high))) := by
  by_cases h1 : low ≤ n
  · by_cases h2 : n ≤ high
    · go_enter Tryz.func51, Tryz.ntmps51
      go_wp2
      go_ret
      exact ⟨by simp [h1, h2], Below.refl _ _⟩
    · go_enter Tryz.func51, Tryz.ntmps51
      go_wp2
      go_ret
      exact ⟨by simp [h1, h2], Below.refl _ _⟩
  · go_enter Tryz.func51, Tryz.ntmps51
    go_wp2
    go_ret
    exact ⟨by rw [decide_eq_false (show ¬ low ≤ n by omega)]; rfl, Below.refl _ _⟩
set_option maxRecDepth 100000 in
set_option maxHeartbeats 1000000 in
theorem rsmall_any (s t : ByteArray) (hs : s.size ≤ 1000000) (ht : t.size ≤ 1000000) (w : World) : Calls Tryz.prog 105 #[pV s t] w (BoolPost w (smallP 18 (s, t))) := by
  obtain ⟨r, hr⟩ : ∃ r, smallP 18 (s, t) = r := ⟨_, rfl⟩
  have hal := (Below.refl w.heap.size w).alloc (Nat.le_refl _) (pObj s t)
  have HAL := Lib.hid hal
  by_cases h1 : (s.size : Int) ≤ 18
  · by_cases h2 : (t.size : Int) ≤ 18
    · cases h3 : okP s t
      · have HR : Hid (smallP 18 (s, t) = false) := by unfold smallP; show _ = _; simp [h3]
        have HE := Lib.hid (okE_no h3)
        clear h3 hr hal
        go_enter Tryz.func105, Tryz.ntmps105
        go_wp2_with fail
        refine (rcheck_any s t _ hs ht).mono ?_
        rintro e w2 ⟨rfl, hb⟩
        rw [HE.out]
        have HB := Lib.hid (HAL.out.trans (hb.mono HAL.out.size))
        clear hb
        go_wp2
        go_ret
        exact ⟨by rw [HR.out]; rfl, HB.out⟩
      · have HR : Hid (smallP 18 (s, t) = true) := by unfold smallP; show _ = _; simp [h3]; omega
        have HE := Lib.hid (okE_yes h3)
        clear h3 hr hal
        go_enter Tryz.func105, Tryz.ntmps105
        go_wp2_with fail
        refine (rcheck_any s t _ hs ht).mono ?_
        rintro e w2 ⟨rfl, hb⟩
        rw [HE.out]
        have HB := Lib.hid (HAL.out.trans (hb.mono HAL.out.size))
        clear hb
        go_wp2
        go_ret
        exact ⟨by rw [HR.out]; rfl, HB.out⟩
    · have HR : Hid (smallP 18 (s, t) = false) := by
        show _ = _
        unfold smallP
        rw [decide_eq_false (p := (s, t).2.size ≤ 18) (by show ¬ t.size ≤ 18; omega)]
        simp
      clear hr hal
      go_enter Tryz.func105, Tryz.ntmps105
      go_wp2
      go_ret
      exact ⟨by rw [HR.out]; rfl, HAL.out⟩
  · have HR : Hid (smallP 18 (s, t) = false) := by
      show _ = _
      unfold smallP
      rw [decide_eq_false (p := (s, t).1.size ≤ 18) (by show ¬ s.size ≤ 18; omega)]
      simp
    clear hr hal
    go_enter Tryz.func105, Tryz.ntmps105
    go_wp2
    go_ret
    exact ⟨by rw [HR.out]; rfl, HAL.out⟩
set_option maxRecDepth 100000 in
set_option maxHeartbeats 1000000 in
theorem rdeep_any (s t : ByteArray) (hs : s.size ≤ 1000000) (ht : t.size ≤ 1000000) (w : World) : Calls Tryz.prog 79 #[pV s t] w (BoolPost w (smallP 300 (s, t))) := by
  obtain ⟨r, hr⟩ : ∃ r, smallP 300 (s, t) = r := ⟨_, rfl⟩
  have hal := (Below.refl w.heap.size w).alloc (Nat.le_refl _) (pObj s t)
  have HAL := Lib.hid hal
  by_cases h1 : (s.size : Int) ≤ 300
  · by_cases h2 : (t.size : Int) ≤ 300
    · cases h3 : okP s t
      · have HR : Hid (smallP 300 (s, t) = false) := by unfold smallP; show _ = _; simp [h3]
        have HE := Lib.hid (okE_no h3)
        clear h3 hr hal
        go_enter Tryz.func79, Tryz.ntmps79
        go_wp2_with fail
        refine (rcheck_any s t _ hs ht).mono ?_
        rintro e w2 ⟨rfl, hb⟩
        rw [HE.out]
        have HB := Lib.hid (HAL.out.trans (hb.mono HAL.out.size))
        clear hb
        go_wp2
        go_ret
        exact ⟨by rw [HR.out]; rfl, HB.out⟩
      · have HR : Hid (smallP 300 (s, t) = true) := by unfold smallP; show _ = _; simp [h3]; omega
        have HE := Lib.hid (okE_yes h3)
        clear h3 hr hal
        go_enter Tryz.func79, Tryz.ntmps79
        go_wp2_with fail
        refine (rcheck_any s t _ hs ht).mono ?_
        rintro e w2 ⟨rfl, hb⟩
        rw [HE.out]
        have HB := Lib.hid (HAL.out.trans (hb.mono HAL.out.size))
        clear hb
        go_wp2
        go_ret
        exact ⟨by rw [HR.out]; rfl, HB.out⟩
    · have HR : Hid (smallP 300 (s, t) = false) := by
        show _ = _
        unfold smallP
        rw [decide_eq_false (p := (s, t).2.size ≤ 300) (by show ¬ t.size ≤ 300; omega)]
        simp
      clear hr hal
      go_enter Tryz.func79, Tryz.ntmps79
      go_wp2
      go_ret
      exact ⟨by rw [HR.out]; rfl, HAL.out⟩
  · have HR : Hid (smallP 300 (s, t) = false) := by
      show _ = _
      unfold smallP
      rw [decide_eq_false (p := (s, t).1.size ≤ 300) (by show ¬ s.size ≤ 300; omega)]
      simp
    clear hr hal
    go_enter Tryz.func79, Tryz.ntmps79
    go_wp2
    go_ret
    exact ⟨by rw [HR.out]; rfl, HAL.out⟩

theorem bool_is {w w' : World} {e : Ending} {b c : Bool} (h : BoolPost w b e w') (hb : b = c) : BoolPost w c e w' := hb ▸ h
end Go.Proofs.YtcncdepjbhnknaaGreatDoor
/- The coverage of an effort, in plain words; ratios with a known answer. -/
namespace Go.Proofs.YtcncdepjbhnknaaGreatDoor
open Go.RowKit Go.Shelf

/-- Are the numbers within their bounds? -/
def coverIn (w s t a : Int) : Prop := (0 ≤ w ∧ w ≤ 100000) ∧ (0 ≤ s ∧ s ≤ 1048576) ∧ (0 ≤ t ∧ t ≤ 1048576) ∧ (1 ≤ a ∧ a ≤ 1125899906842624)
def coverQ (w s t a : Int) : Rat := mkRat (w * s * t) (a.toNat * 1000)
theorem coverIn.prod {w s t a : Int} (h : coverIn w s t a) : 0 ≤ w * s ∧ w * s ≤ 104857600000 := by
  obtain ⟨h1, h2, _⟩ := h
  refine ⟨Int.mul_nonneg h1.1 h2.1, ?_⟩
  have := Int.mul_le_mul h1.2 h2.2 h2.1 (by omega)
  omega
theorem nat_int {x : Int} (h : 0 ≤ x) : ((x.toNat : Nat) : Int) = x := by omega
theorem coverIn.prog {w s t a : Int} (h : coverIn w s t a) : mkRat ((w * s).toNat : Nat) a.toNat * mkRat (t.toNat : Nat) 1000 = coverQ w s t a := by
  unfold coverQ
  rw [Rat.mkRat_mul_mkRat, nat_int h.prod.1, nat_int h.2.2.1.1]
theorem coverIn.docu {w s t a : Int} (h : coverIn w s t a) : mkRat ((w * s).toNat : Nat) 1000 * mkRat (t.toNat : Nat) a.toNat = coverQ w s t a := by
  unfold coverQ
  rw [Rat.mkRat_mul_mkRat, nat_int h.prod.1, nat_int h.2.2.1.1, Nat.mul_comm 1000]
def CoverA (w s t a : Int) (x y : ByteArray) (n : Int) : Prop := (¬ coverIn w s t a ∧ x = ⟨#[]⟩ ∧ y = ⟨#[]⟩ ∧ n = 2) ∨ (coverIn w s t a ∧ IsP (coverQ w s t a) x y ∧ n = 0)
theorem CoverA.det {w s t a : Int} {x y u v : ByteArray} {n m : Int} (h : CoverA w s t a x y n) (g : CoverA w s t a u v m) : x = u ∧ y = v ∧ n = m := by
  rcases h with ⟨h, rfl, rfl, rfl⟩ | ⟨h, h1, rfl⟩ <;> rcases g with ⟨g, rfl, rfl, rfl⟩ | ⟨g, g1, rfl⟩
  · exact ⟨rfl, rfl, rfl⟩
  · exact absurd g h
  · exact absurd h g
  · exact ⟨(h1.one g1).1, (h1.one g1).2, rfl⟩
/-- A ratio of numbers that are not great. -/
theorem ratio_isP (n d : Nat) (hd : 0 < d) (h1 : n < 10 ^ 18) (h2 : d < 10 ^ 18) : (∃ x y, IsP (mkRat (n : Nat) d) x y) ∧ Sz 18 (mkRat (n : Nat) d) ∧ 0 ≤ mkRat (n : Nat) d := by
  have h0 : 0 ≤ mkRat (n : Nat) d := mkRat_nonneg n d
  have hz := Sz.mk hd h1 h2
  exact ⟨sz_isP h0 hz (by decide) (by decide), hz, h0⟩
theorem mul_isP {a b : Rat} (ha : 0 ≤ a) (hb : 0 ≤ b) (h1 : Sz 18 a) (h2 : Sz 18 b) : ∃ x y, IsP (a * b) x y := sz_isP (Rat.mul_nonneg ha hb) (Sz.mul ha hb h1 h2) (by decide) (by decide)
theorem ratio_to {a b : Int} {x y : ByteArray} (ha : 0 ≤ a) (hb : 0 < b) (ha1 : a ≤ 9223372036854775807) (hb1 : b ≤ 9223372036854775807) (hx : IsP (mkRat (a.toNat : Nat) b.toNat) x y) (w : World)(hT : Tabs w) :
    Calls Tryz.prog 72 #[.int .i64 a, .int .i64 b] w (ValPost (.tuple #[pV x y, .int .i64 0]) w) := by
  refine (ratio_any a b (by omega) ha1 (by omega) hb1 w hT).mono ?_
  rintro e w' ⟨u, v, n, rfl, h, hb2⟩
  rcases h with ⟨h, _⟩ | ⟨_, h, _⟩ | ⟨_, _, h⟩
  · omega
  · omega
  · obtain ⟨rfl, rfl, rfl⟩ := ans_to h hx rfl
    exact ⟨rfl, hb2⟩
theorem rratio_to {a b : Int} {x y : ByteArray} (ha : 0 ≤ a) (hb : 0 < b) (ha1 : a ≤ 9223372036854775807) (hb1 : b ≤ 9223372036854775807) (hx : IsP (mkRat (a.toNat : Nat) b.toNat) x y) (w : World) :
    Calls Tryz.prog 52 #[.int .i64 a, .int .i64 b] w (ValPost (.tuple #[pV x y, .int .i64 0]) w) := by
  refine (rratio_any a b (by omega) ha1 (by omega) hb1 w).mono ?_
  rintro e w' ⟨u, v, n, rfl, h, hb2⟩
  rcases h with ⟨h, _⟩ | ⟨_, h, _⟩ | ⟨_, _, h⟩
  · omega
  · omega
  · obtain ⟨rfl, rfl, rfl⟩ := ans_to h hx rfl
    exact ⟨rfl, hb2⟩
end Go.Proofs.YtcncdepjbhnknaaGreatDoor
/- detect's Cover and the document's. -/
namespace Go.Proofs.YtcncdepjbhnknaaGreatDoor
open Go.RowKit Go.Shelf
attribute [local go_sem ↓] Go.wp_at_zero Go.wp_at_succ

/-- The four numbers in blocks. -/
abbrev SN (B1 B2 B3 B4 : Nat) (p q r s : Int) (w' : World) : Prop := w'.cell? ⟨B1, 0, none⟩ = some (.int .i64 p) ∧ w'.cell? ⟨B2, 0, none⟩ = some (.int .i64 q) ∧ w'.cell? ⟨B3, 0, none⟩ = some (.int .i64 r) ∧ w'.cell? ⟨B4, 0, none⟩ = some (.int .i64 s)
abbrev nO (a : Int) : Obj := .cells #[.int .i64 a] 3
def ExactC (c : Rat) (x y : ByteArray) (n : Int) : Prop := n = 0 ∧ IsP c x y
set_option maxRecDepth 100000 in
set_option maxHeartbeats 4000000 in
theorem cover1_any {w : World} {p q r s : Int} (B1 B2 B3 B4 : Nat) (h1 : w.heap[B1]? = some (nO p)) (h2 : w.heap[B2]? = some (nO q)) (h3 : w.heap[B3]? = some (nO s)) (h4 : w.heap[B4]? = some (nO r)) (hin : coverIn p q r s) (hT : Tabs w) :
    Calls Tryz.prog 76 #[.pointer (some ⟨B1, 0, none⟩), .pointer (some ⟨B2, 0, none⟩), .pointer (some ⟨B3, 0, none⟩), .pointer (some ⟨B4, 0, none⟩)] w (DoneD (ExactC (coverQ p q r s)) w) := by
  have hpr := hin.prod
  obtain ⟨hp, hq, hr, hs⟩ := id hin
  have HIN := Lib.hid hin
  obtain ⟨⟨x1, y1, i1⟩, z1, n1⟩ := ratio_isP (p * q).toNat s.toNat (by omega) (by omega) (by omega)
  obtain ⟨⟨x2, y2, i2⟩, z2, n2⟩ := ratio_isP r.toNat 1000 (by omega) (by omega) (by omega)
  obtain ⟨x3, y3, i3⟩ := mul_isP n1 n2 z1 z2
  have I1 := Lib.hid i1
  have I2 := Lib.hid i2
  have I3 := Lib.hid i3
  have HE := Lib.hid hin.prog
  obtain ⟨W, hW⟩ : ∃ z, w.alloc (pObj ⟨#[]⟩ ⟨#[]⟩) = z := ⟨_, rfl⟩
  have HB : Hid (Below w.heap.size w W) := by rw [← hW]; exact (Below.refl _ w).alloc (Nat.le_refl _) _
  have HG : Hid (W.heap[w.heap.size]? = some (pObj ⟨#[]⟩ ⟨#[]⟩)) := by rw [← hW]; exact World.alloc_heap_new w _
  have HS : Hid (∀ V, Below W.heap.size W V → SN B1 B2 B3 B4 p q s r V) := fun V hV => by
    have hb := HB.out.trans (hV.mono HB.out.size)
    have k1 := (hb.block _ (Array.getElem?_eq_some_iff.1 h1).1).trans h1
    have k2 := (hb.block _ (Array.getElem?_eq_some_iff.1 h2).1).trans h2
    have k3 := (hb.block _ (Array.getElem?_eq_some_iff.1 h3).1).trans h3
    have k4 := (hb.block _ (Array.getElem?_eq_some_iff.1 h4).1).trans h4
    exact ⟨known_cell k1 0 rfl, known_cell k2 0 rfl, known_cell k3 0 rfl, known_cell k4 0 rfl⟩
  have HTW : Hid (∀ V, Below W.heap.size W V → Tabs V) := fun V hV => hT.below (HB.out.trans (hV.mono HB.out.size)) (Nat.le_refl _)
  have HW0 : Hid (Below W.heap.size W W.drew) := (Below.refl _ W).drew
  have w1 : IntKind.i64.wrap (p * q) = p * q := IntWalk.i64_in _ (by omega)
  obtain ⟨pq, hpq⟩ : ∃ z, p * q = z := ⟨_, rfl⟩
  rw [hpq] at w1 hpr I1 I3 HE
  clear h1 h2 h3 h4 hT i1 i2 i3 z1 z2 n1 n2
  go_enter Tryz.func76, Tryz.ntmps76
  go_wp2_with fail
  refine tsteps_plain [(true, 0), (true, 1), (true, 2), (true, 3), (true, 8), (false, 4), (true, 5), (true, 6), (false, 7), (false, 9), (true, 10), (true, 11), (false, 12), (false, 13), (true, 14), (true, 15), (false, 16), (false, 17)] (SN B1 B2 B3 B4 p q s r) (fun j => j == 17)
    (by kernel_rfl) (by kernel_rfl) (by kernel_rfl) (fun j hj => by simp at hj ⊢; omega) (fun _ _ o _ _ h => by cases o <;> exact h) (HS.out _ HW0.out) ?_
  skip
  iterate 5
    refine steps_read _ rfl rfl (fun w' hS => by obtain ⟨a0, b0, c0, d0⟩ := hS; go_simp; rfl) ?_
    simp only [List.getElem_toArray, List.getElem_cons_succ, List.getElem_cons_zero, Act.put, List.setIfInBounds_toArray, List.set_cons_zero, List.set_cons_succ]
  refine steps_write rfl rfl fun K hK => ?_
  go_simp
  go_at_call 72
  refine (ratio_to hpr.1 (by omega) (by omega) (by omega) I1.out _ (HTW.out _ HW0.out)).mono ?_
  rintro e w1 ⟨rfl, hb⟩
  have HW1 : Hid (Below W.heap.size W w1) := HW0.out.trans (hb.mono HW0.out.size)
  refine hK _ _ (.inr (HS.out _ HW1.out)) ?_
  clear hK K hb
  skip
  iterate 2
    refine steps_read _ rfl rfl (fun w' hS => by obtain ⟨a0, b0, c0, d0⟩ := hS; go_simp; rfl) ?_
    simp only [List.getElem_toArray, List.getElem_cons_succ, List.getElem_cons_zero, Act.put, List.setIfInBounds_toArray, List.set_cons_zero, List.set_cons_succ]
  refine steps_write rfl rfl fun K hK => ?_
  go_simp
  go_at_call 77
  refine (dmust_ok x1 y1 _).mono ?_
  rintro e w2 ⟨rfl, hb⟩
  have HW2 : Hid (Below W.heap.size W w2) := HW1.out.trans (hb.mono HW1.out.size)
  refine hK _ _ (.inr (HS.out _ HW2.out)) ?_
  clear hK K hb
  refine steps_write rfl rfl fun K hK => ?_
  go_simp
  go_at_call 72
  refine (ratio_to (b := 1000) hr.1 (by omega) (by omega) (by omega) I2.out _ (HTW.out _ HW2.out)).mono ?_
  rintro e w3 ⟨rfl, hb⟩
  have HW3 : Hid (Below W.heap.size W w3) := HW2.out.trans (hb.mono HW2.out.size)
  refine hK _ _ (.inr (HS.out _ HW3.out)) ?_
  clear hK K hb
  skip
  iterate 2
    refine steps_read _ rfl rfl (fun w' hS => by obtain ⟨a0, b0, c0, d0⟩ := hS; go_simp; rfl) ?_
    simp only [List.getElem_toArray, List.getElem_cons_succ, List.getElem_cons_zero, Act.put, List.setIfInBounds_toArray, List.set_cons_zero, List.set_cons_succ]
  refine steps_write rfl rfl fun K hK => ?_
  go_simp
  go_at_call 77
  refine (dmust_ok x2 y2 _).mono ?_
  rintro e w4 ⟨rfl, hb⟩
  have HW4 : Hid (Below W.heap.size W w4) := HW3.out.trans (hb.mono HW3.out.size)
  refine hK _ _ (.inr (HS.out _ HW4.out)) ?_
  clear hK K hb
  refine steps_write rfl rfl fun K hK => ?_
  go_simp
  go_at_call 29
  refine (mul_to I1.out I2.out I3.out rfl _ (HTW.out _ HW4.out)).mono ?_
  rintro e w5 ⟨rfl, hb⟩
  have HW5 : Hid (Below W.heap.size W w5) := HW4.out.trans (hb.mono HW4.out.size)
  refine hK _ _ (.inr (HS.out _ HW5.out)) ?_
  clear hK K hb
  skip
  iterate 2
    refine steps_read _ rfl rfl (fun w' hS => by obtain ⟨a0, b0, c0, d0⟩ := hS; go_simp; rfl) ?_
    simp only [List.getElem_toArray, List.getElem_cons_succ, List.getElem_cons_zero, Act.put, List.setIfInBounds_toArray, List.set_cons_zero, List.set_cons_succ]
  refine steps_write rfl rfl fun K hK => ?_
  go_simp
  go_at_call 77
  refine (dmust_ok x3 y3 _).mono ?_
  rintro e w6 ⟨rfl, hb⟩
  have HW6 : Hid (Below W.heap.size W w6) := HW5.out.trans (hb.mono HW5.out.size)
  refine hK _ _ (.inr (HS.out _ HW6.out)) ?_
  clear hK K hb
  have hg := (HW6.out.block _ (Array.getElem?_eq_some_iff.1 HG.out).1).trans HG.out
  have r0 := known_cell hg 0 rfl
  have r1 := known_cell hg 1 rfl
  have f0 := known_frozen hg 0
  have f1 := known_frozen hg 1
  refine steps_write rfl rfl fun K hK => ?_
  go_simp
  obtain ⟨q0, q1⟩ := two_put_cells hg (.string x3) (.string y3)
  have HBQ := Lib.hid (two_put_below (HB.out.trans (HW6.out.mono HB.out.size)) (Nat.le_refl _) (.string x3) (.string y3))
  refine hK _ _ (.inl rfl) ?_
  clear hK K
  refine steps_end ?_
  clear r0 r1 f0 f1 hg
  go_wp2
  refine bodyPost_ret (v := .agg #[.string x3, .string y3]) (by simp [results, Tryz.f76, go_sem, q0, q1]) rfl ⟨x3, y3, 0, .inl ⟨rfl, rfl⟩, ⟨rfl, ?_⟩, HBQ.out⟩
  rw [← HE.out]
  exact I3.out
end Go.Proofs.YtcncdepjbhnknaaGreatDoor
/- detect's Cover: the call; the document's Cover. -/
namespace Go.Proofs.YtcncdepjbhnknaaGreatDoor
open Go.RowKit Go.Shelf
attribute [local go_sem ↓] Go.wp_at_zero Go.wp_at_succ

theorem Boxes.five (w : World) (a b c d e : Obj) : Boxes w.heap.size [a, b, c, d, e] (((((w.alloc a).alloc b).alloc c).alloc d).alloc e) := (Boxes.four w a b c d).snoc (by simp) e
theorem bound_no {lo n hi : Int} (h : (decide (lo ≤ n) && decide (n ≤ hi)) = false) : ¬ (lo ≤ n ∧ n ≤ hi) := fun h2 => by
  rw [decide_eq_true h2.1, decide_eq_true h2.2] at h
  cases h
theorem bound_yes {lo n hi : Int} (h : (decide (lo ≤ n) && decide (n ≤ hi)) = true) : lo ≤ n ∧ n ≤ hi := by simpa using h
theorem coverA_no {p q r s : Int} (h : ¬ coverIn p q r s) : CoverA p q r s ⟨#[]⟩ ⟨#[]⟩ 2 := .inl ⟨h, rfl, rfl, rfl⟩
set_option maxRecDepth 100000 in
set_option maxHeartbeats 8000000 in
theorem dCover_any (p q r s : Int) (w : World) (hT : Tabs w) :
    Calls Tryz.prog 33 #[.int .i64 p, .int .i64 q, .int .i64 r, .int .i64 s] w (PartPost (CoverA p q r s) w) := by
  have HT := Lib.hid hT
  obtain ⟨w0, hw0⟩ : ∃ z, ((((w.alloc (nO p)).alloc (nO q)).alloc (nO r)).alloc (nO s)).alloc (pObj ⟨#[]⟩ ⟨#[]⟩) = z := ⟨_, rfl⟩
  have HX0 : Hid (Boxes w.heap.size [nO p, nO q, nO r, nO s, pObj ⟨#[]⟩ ⟨#[]⟩] w0) := by rw [← hw0]; exact Boxes.five w _ _ _ _ _
  have HB0 : Hid (Below w.heap.size w w0) := by rw [← hw0]; exact (((((Below.refl _ w).alloc (Nat.le_refl _) _).alloc (by simp) _).alloc (by simp <;> omega) _).alloc (by simp <;> omega) _).alloc (by simp <;> omega) _
  clear hT
  skip
  have a0 : w0.cell? ⟨w.heap.size, 0, none⟩ = some (.int .i64 p) := HX0.out.cell 0 0 rfl rfl rfl
  have b0 : w0.cell? ⟨w.heap.size + 1, 0, none⟩ = some (.int .i64 q) := HX0.out.cell 1 0 rfl rfl rfl
  have d0 : w0.cell? ⟨w.heap.size + 1 + 1, 0, none⟩ = some (.int .i64 r) := HX0.out.cell 2 0 rfl rfl rfl
  have e0 : w0.cell? ⟨w.heap.size + 1 + 1 + 1, 0, none⟩ = some (.int .i64 s) := HX0.out.cell 3 0 rfl rfl rfl
  have c0 : w0.cell? ⟨w.heap.size + 1 + 1 + 1 + 1, 0, none⟩ = some (.string ⟨#[]⟩) := HX0.out.cell 4 0 rfl rfl rfl
  have c1 : w0.cell? ⟨w.heap.size + 1 + 1 + 1 + 1, 1, none⟩ = some (.string ⟨#[]⟩) := HX0.out.cell 4 1 rfl rfl rfl
  have f0 : w0.frozen? ⟨w.heap.size + 1 + 1 + 1 + 1, 0, none⟩ = false := HX0.out.free 4 0 rfl rfl
  have f1 : w0.frozen? ⟨w.heap.size + 1 + 1 + 1 + 1, 1, none⟩ = false := HX0.out.free 4 1 rfl rfl
  go_enter Tryz.func33, Tryz.ntmps33
  skip
  go_wp2_with fail
  refine (within_any p 0 100000 _).mono ?_
  rintro e w1 ⟨rfl, hb⟩
  have HX1 := Lib.hid (HX0.out.below hb HX0.out.lt)
  have HB1 := Lib.hid (HB0.out.trans (hb.mono HB0.out.size))
  clear hb a0 b0 c0 d0 e0 c1 f0 f1
  skip
  have a0 : w1.cell? ⟨w.heap.size, 0, none⟩ = some (.int .i64 p) := HX1.out.cell 0 0 rfl rfl rfl
  have b0 : w1.cell? ⟨w.heap.size + 1, 0, none⟩ = some (.int .i64 q) := HX1.out.cell 1 0 rfl rfl rfl
  have d0 : w1.cell? ⟨w.heap.size + 1 + 1, 0, none⟩ = some (.int .i64 r) := HX1.out.cell 2 0 rfl rfl rfl
  have e0 : w1.cell? ⟨w.heap.size + 1 + 1 + 1, 0, none⟩ = some (.int .i64 s) := HX1.out.cell 3 0 rfl rfl rfl
  have c0 : w1.cell? ⟨w.heap.size + 1 + 1 + 1 + 1, 0, none⟩ = some (.string ⟨#[]⟩) := HX1.out.cell 4 0 rfl rfl rfl
  have c1 : w1.cell? ⟨w.heap.size + 1 + 1 + 1 + 1, 1, none⟩ = some (.string ⟨#[]⟩) := HX1.out.cell 4 1 rfl rfl rfl
  have f0 : w1.frozen? ⟨w.heap.size + 1 + 1 + 1 + 1, 0, none⟩ = false := HX1.out.free 4 0 rfl rfl
  have f1 : w1.frozen? ⟨w.heap.size + 1 + 1 + 1 + 1, 1, none⟩ = false := HX1.out.free 4 1 rfl rfl
  clear hw0
  cases hbt : (decide (0 ≤ p) && decide (p ≤ 100000))
  · have hno := bound_no hbt
    skip
    have HA : Hid (CoverA p q r s ⟨#[]⟩ ⟨#[]⟩ 2) := coverA_no (fun h => hno h.1)
    clear hbt
    go_wp2
    skip
    obtain ⟨q0, q1⟩ := two_put_cells (HX1.out.block 4 (b := w.heap.size + 1 + 1 + 1 + 1) rfl rfl) (.string ⟨#[]⟩) (.string ⟨#[]⟩)
    exact bodyPost_ret (v := .tuple #[.agg #[.string ⟨#[]⟩, .string ⟨#[]⟩], .int .i64 2]) (by simp [results, Tryz.f33, go_sem, q0, q1]) rfl ⟨⟨#[]⟩, ⟨#[]⟩, 2, rfl, HA.out, two_put_below HB1.out (by show _ ≤ _; omega) (.string ⟨#[]⟩) (.string ⟨#[]⟩)⟩
  · have HP := Lib.hid (bound_yes hbt)
    clear hbt
    skip
    go_wp2_with fail
    refine (within_any q 0 1048576 _).mono ?_
    rintro e w2 ⟨rfl, hb⟩
    have HX2 := Lib.hid (HX1.out.below hb HX1.out.lt)
    have HB2 := Lib.hid (HB1.out.trans (hb.mono HB1.out.size))
    clear hb a0 b0 c0 d0 e0 c1 f0 f1
    skip
    have a0 : w2.cell? ⟨w.heap.size, 0, none⟩ = some (.int .i64 p) := HX2.out.cell 0 0 rfl rfl rfl
    have b0 : w2.cell? ⟨w.heap.size + 1, 0, none⟩ = some (.int .i64 q) := HX2.out.cell 1 0 rfl rfl rfl
    have d0 : w2.cell? ⟨w.heap.size + 1 + 1, 0, none⟩ = some (.int .i64 r) := HX2.out.cell 2 0 rfl rfl rfl
    have e0 : w2.cell? ⟨w.heap.size + 1 + 1 + 1, 0, none⟩ = some (.int .i64 s) := HX2.out.cell 3 0 rfl rfl rfl
    have c0 : w2.cell? ⟨w.heap.size + 1 + 1 + 1 + 1, 0, none⟩ = some (.string ⟨#[]⟩) := HX2.out.cell 4 0 rfl rfl rfl
    have c1 : w2.cell? ⟨w.heap.size + 1 + 1 + 1 + 1, 1, none⟩ = some (.string ⟨#[]⟩) := HX2.out.cell 4 1 rfl rfl rfl
    have f0 : w2.frozen? ⟨w.heap.size + 1 + 1 + 1 + 1, 0, none⟩ = false := HX2.out.free 4 0 rfl rfl
    have f1 : w2.frozen? ⟨w.heap.size + 1 + 1 + 1 + 1, 1, none⟩ = false := HX2.out.free 4 1 rfl rfl
    cases hbt : (decide (0 ≤ q) && decide (q ≤ 1048576))
    · have hno := bound_no hbt
      skip
      have HA : Hid (CoverA p q r s ⟨#[]⟩ ⟨#[]⟩ 2) := coverA_no (fun h => hno h.2.1)
      clear hbt
      go_wp2
      skip
      obtain ⟨q0, q1⟩ := two_put_cells (HX2.out.block 4 (b := w.heap.size + 1 + 1 + 1 + 1) rfl rfl) (.string ⟨#[]⟩) (.string ⟨#[]⟩)
      exact bodyPost_ret (v := .tuple #[.agg #[.string ⟨#[]⟩, .string ⟨#[]⟩], .int .i64 2]) (by simp [results, Tryz.f33, go_sem, q0, q1]) rfl ⟨⟨#[]⟩, ⟨#[]⟩, 2, rfl, HA.out, two_put_below HB2.out (by show _ ≤ _; omega) (.string ⟨#[]⟩) (.string ⟨#[]⟩)⟩
    · have HQ := Lib.hid (bound_yes hbt)
      clear hbt
      skip
      go_wp2_with fail
      refine (within_any r 0 1048576 _).mono ?_
      rintro e w3 ⟨rfl, hb⟩
      have HX3 := Lib.hid (HX2.out.below hb HX2.out.lt)
      have HB3 := Lib.hid (HB2.out.trans (hb.mono HB2.out.size))
      clear hb a0 b0 c0 d0 e0 c1 f0 f1
      skip
      have a0 : w3.cell? ⟨w.heap.size, 0, none⟩ = some (.int .i64 p) := HX3.out.cell 0 0 rfl rfl rfl
      have b0 : w3.cell? ⟨w.heap.size + 1, 0, none⟩ = some (.int .i64 q) := HX3.out.cell 1 0 rfl rfl rfl
      have d0 : w3.cell? ⟨w.heap.size + 1 + 1, 0, none⟩ = some (.int .i64 r) := HX3.out.cell 2 0 rfl rfl rfl
      have e0 : w3.cell? ⟨w.heap.size + 1 + 1 + 1, 0, none⟩ = some (.int .i64 s) := HX3.out.cell 3 0 rfl rfl rfl
      have c0 : w3.cell? ⟨w.heap.size + 1 + 1 + 1 + 1, 0, none⟩ = some (.string ⟨#[]⟩) := HX3.out.cell 4 0 rfl rfl rfl
      have c1 : w3.cell? ⟨w.heap.size + 1 + 1 + 1 + 1, 1, none⟩ = some (.string ⟨#[]⟩) := HX3.out.cell 4 1 rfl rfl rfl
      have f0 : w3.frozen? ⟨w.heap.size + 1 + 1 + 1 + 1, 0, none⟩ = false := HX3.out.free 4 0 rfl rfl
      have f1 : w3.frozen? ⟨w.heap.size + 1 + 1 + 1 + 1, 1, none⟩ = false := HX3.out.free 4 1 rfl rfl
      cases hbt : (decide (0 ≤ r) && decide (r ≤ 1048576))
      · have hno := bound_no hbt
        skip
        have HA : Hid (CoverA p q r s ⟨#[]⟩ ⟨#[]⟩ 2) := coverA_no (fun h => hno h.2.2.1)
        clear hbt
        go_wp2
        skip
        obtain ⟨q0, q1⟩ := two_put_cells (HX3.out.block 4 (b := w.heap.size + 1 + 1 + 1 + 1) rfl rfl) (.string ⟨#[]⟩) (.string ⟨#[]⟩)
        exact bodyPost_ret (v := .tuple #[.agg #[.string ⟨#[]⟩, .string ⟨#[]⟩], .int .i64 2]) (by simp [results, Tryz.f33, go_sem, q0, q1]) rfl ⟨⟨#[]⟩, ⟨#[]⟩, 2, rfl, HA.out, two_put_below HB3.out (by show _ ≤ _; omega) (.string ⟨#[]⟩) (.string ⟨#[]⟩)⟩
      · have HR := Lib.hid (bound_yes hbt)
        clear hbt
        skip
        go_wp2_with fail
        refine (within_any s 1 1125899906842624 _).mono ?_
        rintro e w4 ⟨rfl, hb⟩
        have HX4 := Lib.hid (HX3.out.below hb HX3.out.lt)
        have HB4 := Lib.hid (HB3.out.trans (hb.mono HB3.out.size))
        clear hb a0 b0 c0 d0 e0 c1 f0 f1
        skip
        have a0 : w4.cell? ⟨w.heap.size, 0, none⟩ = some (.int .i64 p) := HX4.out.cell 0 0 rfl rfl rfl
        have b0 : w4.cell? ⟨w.heap.size + 1, 0, none⟩ = some (.int .i64 q) := HX4.out.cell 1 0 rfl rfl rfl
        have d0 : w4.cell? ⟨w.heap.size + 1 + 1, 0, none⟩ = some (.int .i64 r) := HX4.out.cell 2 0 rfl rfl rfl
        have e0 : w4.cell? ⟨w.heap.size + 1 + 1 + 1, 0, none⟩ = some (.int .i64 s) := HX4.out.cell 3 0 rfl rfl rfl
        have c0 : w4.cell? ⟨w.heap.size + 1 + 1 + 1 + 1, 0, none⟩ = some (.string ⟨#[]⟩) := HX4.out.cell 4 0 rfl rfl rfl
        have c1 : w4.cell? ⟨w.heap.size + 1 + 1 + 1 + 1, 1, none⟩ = some (.string ⟨#[]⟩) := HX4.out.cell 4 1 rfl rfl rfl
        have f0 : w4.frozen? ⟨w.heap.size + 1 + 1 + 1 + 1, 0, none⟩ = false := HX4.out.free 4 0 rfl rfl
        have f1 : w4.frozen? ⟨w.heap.size + 1 + 1 + 1 + 1, 1, none⟩ = false := HX4.out.free 4 1 rfl rfl
        cases hbt : (decide (1 ≤ s) && decide (s ≤ 1125899906842624))
        · have hno := bound_no hbt
          skip
          have HA : Hid (CoverA p q r s ⟨#[]⟩ ⟨#[]⟩ 2) := coverA_no (fun h => hno h.2.2.2)
          clear hbt
          go_wp2
          skip
          obtain ⟨q0, q1⟩ := two_put_cells (HX4.out.block 4 (b := w.heap.size + 1 + 1 + 1 + 1) rfl rfl) (.string ⟨#[]⟩) (.string ⟨#[]⟩)
          exact bodyPost_ret (v := .tuple #[.agg #[.string ⟨#[]⟩, .string ⟨#[]⟩], .int .i64 2]) (by simp [results, Tryz.f33, go_sem, q0, q1]) rfl ⟨⟨#[]⟩, ⟨#[]⟩, 2, rfl, HA.out, two_put_below HB4.out (by show _ ≤ _; omega) (.string ⟨#[]⟩) (.string ⟨#[]⟩)⟩
        · have HIN : Hid (coverIn p q r s) := ⟨HP.out, HQ.out, HR.out, bound_yes hbt⟩
          have hl4 := HX4.out.lt
          have HTR : Hid (Calls Tryz.prog 68 #[.func (.func 76) #[] #[.pointer (some ⟨w.heap.size, 0, none⟩), .pointer (some ⟨w.heap.size + 1, 0, none⟩), .pointer (some ⟨w.heap.size + 1 + 1 + 1, 0, none⟩), .pointer (some ⟨w.heap.size + 1 + 1, 0, none⟩)]] w4 (PartPost (ExactC (coverQ p q r s)) w4)) :=
            dtried_any (enters_of Tryz.func76 (by kernel_rfl) rfl) fun W hW => by
              have hx := HX4.out.below hW hl4
              have hbw := HB4.out.trans (hW.mono HB4.out.size)
              exact cover1_any w.heap.size (w.heap.size + 1) (w.heap.size + 1 + 1 + 1) (w.heap.size + 1 + 1) (hx.block 0 rfl rfl) (hx.block 1 rfl rfl) (hx.block 3 rfl rfl) (hx.block 2 rfl rfl) HIN.out (HT.out.below hbw (Nat.le_refl _))
          clear hbt
          go_wp2_with fail
          refine HTR.out.mono ?_
          rintro e w5 ⟨x, y, m, rfl, ⟨rfl, hA⟩, hb⟩
          have HA : Hid (CoverA p q r s x y 0) := .inr ⟨HIN.out, hA, rfl⟩
          have HX5 := Lib.hid (HX4.out.below hb hl4)
          have HB5 := Lib.hid (HB4.out.trans (hb.mono HB4.out.size))
          clear hb hA HTR hl4 a0 b0 c0 d0 e0 c1 f0 f1
          skip
          have a0 : w5.cell? ⟨w.heap.size, 0, none⟩ = some (.int .i64 p) := HX5.out.cell 0 0 rfl rfl rfl
          have b0 : w5.cell? ⟨w.heap.size + 1, 0, none⟩ = some (.int .i64 q) := HX5.out.cell 1 0 rfl rfl rfl
          have d0 : w5.cell? ⟨w.heap.size + 1 + 1, 0, none⟩ = some (.int .i64 r) := HX5.out.cell 2 0 rfl rfl rfl
          have e0 : w5.cell? ⟨w.heap.size + 1 + 1 + 1, 0, none⟩ = some (.int .i64 s) := HX5.out.cell 3 0 rfl rfl rfl
          have c0 : w5.cell? ⟨w.heap.size + 1 + 1 + 1 + 1, 0, none⟩ = some (.string ⟨#[]⟩) := HX5.out.cell 4 0 rfl rfl rfl
          have c1 : w5.cell? ⟨w.heap.size + 1 + 1 + 1 + 1, 1, none⟩ = some (.string ⟨#[]⟩) := HX5.out.cell 4 1 rfl rfl rfl
          have f0 : w5.frozen? ⟨w.heap.size + 1 + 1 + 1 + 1, 0, none⟩ = false := HX5.out.free 4 0 rfl rfl
          have f1 : w5.frozen? ⟨w.heap.size + 1 + 1 + 1 + 1, 1, none⟩ = false := HX5.out.free 4 1 rfl rfl
          go_wp2
          skip
          obtain ⟨q0, q1⟩ := two_put_cells (HX5.out.block 4 (b := w.heap.size + 1 + 1 + 1 + 1) rfl rfl) (.string x) (.string y)
          exact bodyPost_ret (v := .tuple #[.agg #[.string x, .string y], .int .i64 0]) (by simp [results, Tryz.f33, go_sem, q0, q1]) rfl ⟨x, y, 0, rfl, HA.out, two_put_below HB5.out (by show _ ≤ _; omega) (.string x) (.string y)⟩
end Go.Proofs.YtcncdepjbhnknaaGreatDoor
/- The document's Cover. -/
namespace Go.Proofs.YtcncdepjbhnknaaGreatDoor
open Go.RowKit Go.Shelf
attribute [local go_sem ↓] Go.wp_at_zero Go.wp_at_succ

set_option maxRecDepth 100000 in
set_option maxHeartbeats 8000000 in
theorem rCover_any (p q r s : Int) (w : World) :
    Calls Tryz.prog 34 #[.int .i64 p, .int .i64 q, .int .i64 r, .int .i64 s] w (PartPost (CoverA p q r s) w) := by
  obtain ⟨w0, hw0⟩ : ∃ z, w.alloc (pObj ⟨#[]⟩ ⟨#[]⟩) = z := ⟨_, rfl⟩
  have HX0 : Hid (Boxes w.heap.size [pObj ⟨#[]⟩ ⟨#[]⟩] w0) := by rw [← hw0]; exact Boxes.one w _
  have HB0 : Hid (Below w.heap.size w w0) := by rw [← hw0]; exact (Below.refl _ w).alloc (Nat.le_refl _) _
  go_enter Tryz.func34, Tryz.ntmps34
  skip
  go_wp2_with fail
  refine (rin_any p 0 100000 _).mono ?_
  rintro e w1 ⟨rfl, hb⟩
  have HX1 := Lib.hid (HX0.out.below hb HX0.out.lt)
  have HB1 := Lib.hid (HB0.out.trans (hb.mono HB0.out.size))
  clear hb
  clear hw0
  cases hbt : (decide (0 ≤ p) && decide (p ≤ 100000))
  · have hno := bound_no hbt
    skip
    have HA : Hid (CoverA p q r s ⟨#[]⟩ ⟨#[]⟩ 2) := coverA_no (fun h => hno h.1)
    clear hbt
    skip
    have c0 : w1.cell? ⟨w.heap.size, 0, none⟩ = some (.string ⟨#[]⟩) := HX1.out.cell 0 0 rfl rfl rfl
    have c1 : w1.cell? ⟨w.heap.size, 1, none⟩ = some (.string ⟨#[]⟩) := HX1.out.cell 0 1 rfl rfl rfl
    have f0 : w1.frozen? ⟨w.heap.size, 0, none⟩ = false := HX1.out.free 0 0 rfl rfl
    have f1 : w1.frozen? ⟨w.heap.size, 1, none⟩ = false := HX1.out.free 0 1 rfl rfl
    go_wp2
    skip
    obtain ⟨q0, q1⟩ := two_put_cells (HX1.out.block 0 (b := w.heap.size) rfl rfl) (.string ⟨#[]⟩) (.string ⟨#[]⟩)
    exact bodyPost_ret (v := .tuple #[.agg #[.string ⟨#[]⟩, .string ⟨#[]⟩], .int .i64 2]) (by simp [results, Tryz.f34, go_sem, q0, q1]) rfl ⟨⟨#[]⟩, ⟨#[]⟩, 2, rfl, HA.out, two_put_below HB1.out (Nat.le_refl _) (.string ⟨#[]⟩) (.string ⟨#[]⟩)⟩
  · have HP := Lib.hid (bound_yes hbt)
    clear hbt
    skip
    go_wp2_with fail
    refine (rin_any q 0 1048576 _).mono ?_
    rintro e w2 ⟨rfl, hb⟩
    have HX2 := Lib.hid (HX1.out.below hb HX1.out.lt)
    have HB2 := Lib.hid (HB1.out.trans (hb.mono HB1.out.size))
    clear hb
    cases hbt : (decide (0 ≤ q) && decide (q ≤ 1048576))
    · have hno := bound_no hbt
      skip
      have HA : Hid (CoverA p q r s ⟨#[]⟩ ⟨#[]⟩ 2) := coverA_no (fun h => hno h.2.1)
      clear hbt
      skip
      have c0 : w2.cell? ⟨w.heap.size, 0, none⟩ = some (.string ⟨#[]⟩) := HX2.out.cell 0 0 rfl rfl rfl
      have c1 : w2.cell? ⟨w.heap.size, 1, none⟩ = some (.string ⟨#[]⟩) := HX2.out.cell 0 1 rfl rfl rfl
      have f0 : w2.frozen? ⟨w.heap.size, 0, none⟩ = false := HX2.out.free 0 0 rfl rfl
      have f1 : w2.frozen? ⟨w.heap.size, 1, none⟩ = false := HX2.out.free 0 1 rfl rfl
      go_wp2
      skip
      obtain ⟨q0, q1⟩ := two_put_cells (HX2.out.block 0 (b := w.heap.size) rfl rfl) (.string ⟨#[]⟩) (.string ⟨#[]⟩)
      exact bodyPost_ret (v := .tuple #[.agg #[.string ⟨#[]⟩, .string ⟨#[]⟩], .int .i64 2]) (by simp [results, Tryz.f34, go_sem, q0, q1]) rfl ⟨⟨#[]⟩, ⟨#[]⟩, 2, rfl, HA.out, two_put_below HB2.out (Nat.le_refl _) (.string ⟨#[]⟩) (.string ⟨#[]⟩)⟩
    · have HQ := Lib.hid (bound_yes hbt)
      clear hbt
      skip
      go_wp2_with fail
      refine (rin_any r 0 1048576 _).mono ?_
      rintro e w3 ⟨rfl, hb⟩
      have HX3 := Lib.hid (HX2.out.below hb HX2.out.lt)
      have HB3 := Lib.hid (HB2.out.trans (hb.mono HB2.out.size))
      clear hb
      cases hbt : (decide (0 ≤ r) && decide (r ≤ 1048576))
      · have hno := bound_no hbt
        skip
        have HA : Hid (CoverA p q r s ⟨#[]⟩ ⟨#[]⟩ 2) := coverA_no (fun h => hno h.2.2.1)
        clear hbt
        skip
        have c0 : w3.cell? ⟨w.heap.size, 0, none⟩ = some (.string ⟨#[]⟩) := HX3.out.cell 0 0 rfl rfl rfl
        have c1 : w3.cell? ⟨w.heap.size, 1, none⟩ = some (.string ⟨#[]⟩) := HX3.out.cell 0 1 rfl rfl rfl
        have f0 : w3.frozen? ⟨w.heap.size, 0, none⟩ = false := HX3.out.free 0 0 rfl rfl
        have f1 : w3.frozen? ⟨w.heap.size, 1, none⟩ = false := HX3.out.free 0 1 rfl rfl
        go_wp2
        skip
        obtain ⟨q0, q1⟩ := two_put_cells (HX3.out.block 0 (b := w.heap.size) rfl rfl) (.string ⟨#[]⟩) (.string ⟨#[]⟩)
        exact bodyPost_ret (v := .tuple #[.agg #[.string ⟨#[]⟩, .string ⟨#[]⟩], .int .i64 2]) (by simp [results, Tryz.f34, go_sem, q0, q1]) rfl ⟨⟨#[]⟩, ⟨#[]⟩, 2, rfl, HA.out, two_put_below HB3.out (Nat.le_refl _) (.string ⟨#[]⟩) (.string ⟨#[]⟩)⟩
      · have HR := Lib.hid (bound_yes hbt)
        clear hbt
        skip
        go_wp2_with fail
        refine (rin_any s 1 1125899906842624 _).mono ?_
        rintro e w4 ⟨rfl, hb⟩
        have HX4 := Lib.hid (HX3.out.below hb HX3.out.lt)
        have HB4 := Lib.hid (HB3.out.trans (hb.mono HB3.out.size))
        clear hb
        cases hbt : (decide (1 ≤ s) && decide (s ≤ 1125899906842624))
        · have hno := bound_no hbt
          skip
          have HA : Hid (CoverA p q r s ⟨#[]⟩ ⟨#[]⟩ 2) := coverA_no (fun h => hno h.2.2.2)
          clear hbt
          skip
          have c0 : w4.cell? ⟨w.heap.size, 0, none⟩ = some (.string ⟨#[]⟩) := HX4.out.cell 0 0 rfl rfl rfl
          have c1 : w4.cell? ⟨w.heap.size, 1, none⟩ = some (.string ⟨#[]⟩) := HX4.out.cell 0 1 rfl rfl rfl
          have f0 : w4.frozen? ⟨w.heap.size, 0, none⟩ = false := HX4.out.free 0 0 rfl rfl
          have f1 : w4.frozen? ⟨w.heap.size, 1, none⟩ = false := HX4.out.free 0 1 rfl rfl
          go_wp2
          skip
          obtain ⟨q0, q1⟩ := two_put_cells (HX4.out.block 0 (b := w.heap.size) rfl rfl) (.string ⟨#[]⟩) (.string ⟨#[]⟩)
          exact bodyPost_ret (v := .tuple #[.agg #[.string ⟨#[]⟩, .string ⟨#[]⟩], .int .i64 2]) (by simp [results, Tryz.f34, go_sem, q0, q1]) rfl ⟨⟨#[]⟩, ⟨#[]⟩, 2, rfl, HA.out, two_put_below HB4.out (Nat.le_refl _) (.string ⟨#[]⟩) (.string ⟨#[]⟩)⟩
        · have hin : coverIn p q r s := ⟨HP.out, HQ.out, HR.out, bound_yes hbt⟩
          have HIN := Lib.hid hin
          have hpr := hin.prod
          obtain ⟨hp, hq, hr, hs⟩ := id hin
          obtain ⟨⟨x1, y1, i1⟩, z1, n1⟩ := ratio_isP (p * q).toNat 1000 (by omega) (by omega) (by omega)
          obtain ⟨⟨x2, y2, i2⟩, z2, n2⟩ := ratio_isP r.toNat s.toNat (by omega) (by omega) (by omega)
          obtain ⟨x3, y3, i3⟩ := mul_isP n1 n2 z1 z2
          have I1 := Lib.hid i1
          have I2 := Lib.hid i2
          have I3 := Lib.hid i3
          have HE := Lib.hid hin.docu
          have w1' : IntKind.i64.wrap (p * q) = p * q := IntWalk.i64_in _ (by omega)
          obtain ⟨pq, hpq⟩ : ∃ z, p * q = z := ⟨_, rfl⟩
          rw [hpq] at w1' hpr I1 I3 HE
          clear hbt i1 i2 i3 z1 z2 n1 n2 hin
          go_wp2_with fail
          refine (rratio_to (b := 1000) hpr.1 (by omega) (by omega) (by omega) I1.out _).mono ?_
          rintro e w5 ⟨rfl, hb⟩
          obtain ⟨g, hg⟩ : ∃ z, w5.heap.size = z := ⟨_, rfl⟩
          obtain ⟨w6, hw6⟩ : ∃ z, w5.alloc (pObj x1 y1) = z := ⟨_, rfl⟩
          have hal : Below w5.heap.size w5 w6 := by rw [← hw6]; exact (Below.refl _ w5).alloc (Nat.le_refl _) _
          have HG6 : Hid (w6.heap[g]? = some (pObj x1 y1)) := by rw [← hw6, ← hg]; exact World.alloc_heap_new w5 _
          have h46 := hb.trans (hal.mono hb.size)
          have HX6 := Lib.hid (HX4.out.below h46 HX4.out.lt)
          have HB6 := Lib.hid (HB4.out.trans (h46.mono HB4.out.size))
          clear hb hal h46
          go_wp2_with fail
          clear hw6 hg
          refine (rratio_to hr.1 (by omega) (by omega) (by omega) I2.out _).mono ?_
          rintro e w7 ⟨rfl, hb⟩
          obtain ⟨g2, hg2⟩ : ∃ z, w7.heap.size = z := ⟨_, rfl⟩
          obtain ⟨w8, hw8⟩ : ∃ z, w7.alloc (pObj x2 y2) = z := ⟨_, rfl⟩
          have hal : Below w7.heap.size w7 w8 := by rw [← hw8]; exact (Below.refl _ w7).alloc (Nat.le_refl _) _
          have hg8 : w8.heap[g2]? = some (pObj x2 y2) := by rw [← hw8, ← hg2]; exact World.alloc_heap_new w7 _
          have h68 := hb.trans (hal.mono hb.size)
          have hg6 := (h68.block _ (Array.getElem?_eq_some_iff.1 HG6.out).1).trans HG6.out
          have HX8 := Lib.hid (HX6.out.below h68 HX6.out.lt)
          have HB8 := Lib.hid (HB6.out.trans (h68.mono HB6.out.size))
          have a0 := known_cell hg6 0 (v := .string x1) rfl
          have a1 := known_cell hg6 1 (v := .string y1) rfl
          have b0 := known_cell hg8 0 (v := .string x2) rfl
          have b1 := known_cell hg8 1 (v := .string y2) rfl
          clear hb hal h68 hg6 hg8
          go_wp2_with fail
          clear hw8 hg2 a0 a1 b0 b1
          refine (rmul_to I1.out I2.out I3.out rfl _).mono ?_
          rintro e w9 ⟨rfl, hb⟩
          have HX9 := Lib.hid (HX8.out.below hb HX8.out.lt)
          have HB9 := Lib.hid (HB8.out.trans (hb.mono HB8.out.size))
          have HA : Hid (CoverA p q r s x3 y3 0) := .inr ⟨HIN.out, by rw [← HE.out]; exact I3.out, rfl⟩
          clear hb
          skip
          have c0 : w9.cell? ⟨w.heap.size, 0, none⟩ = some (.string ⟨#[]⟩) := HX9.out.cell 0 0 rfl rfl rfl
          have c1 : w9.cell? ⟨w.heap.size, 1, none⟩ = some (.string ⟨#[]⟩) := HX9.out.cell 0 1 rfl rfl rfl
          have f0 : w9.frozen? ⟨w.heap.size, 0, none⟩ = false := HX9.out.free 0 0 rfl rfl
          have f1 : w9.frozen? ⟨w.heap.size, 1, none⟩ = false := HX9.out.free 0 1 rfl rfl
          go_wp2
          skip
          obtain ⟨q0, q1⟩ := two_put_cells (HX9.out.block 0 (b := w.heap.size) rfl rfl) (.string x3) (.string y3)
          exact bodyPost_ret (v := .tuple #[.agg #[.string x3, .string y3], .int .i64 0]) (by simp [results, Tryz.f34, go_sem, q0, q1]) rfl ⟨x3, y3, 0, rfl, HA.out, two_put_below HB9.out (Nat.le_refl _) (.string x3) (.string y3)⟩
end Go.Proofs.YtcncdepjbhnknaaGreatDoor
/- DetectCovers' walk. -/
namespace Go.Proofs.YtcncdepjbhnknaaGreatDoor
open Go.RowKit Go.Shelf
attribute [local go_sem ↓] Go.wp_at_zero Go.wp_at_succ

set_option maxRecDepth 100000 in
set_option maxHeartbeats 8000000 in
theorem covers_law (p q r s : Int) (hp : -9223372036854775808 ≤ p ∧ p ≤ 9223372036854775807) (hq : -9223372036854775808 ≤ q ∧ q ≤ 9223372036854775807) (hr : -9223372036854775808 ≤ r ∧ r ≤ 9223372036854775807) (hs : -9223372036854775808 ≤ s ∧ s ≤ 9223372036854775807)
    (w : World) (hD : DetV w) (hT : Tabs w) : Calls Tryz.prog 8 #[.int .i64 p, .int .i64 q, .int .i64 r, .int .i64 s] w (BoolPost w true) := by
  have HT := Lib.hid hT
  have HD := Lib.hid hD
  clear hT hD hp hq hr hs
  go_enter Tryz.func8, Tryz.ntmps8
  go_wp2_with fail
  refine (dCover_any p q r s _ HT.out).mono ?_
  rintro e w1 ⟨x, y, n, rfl, hA1, hb⟩
  have HA1 := Lib.hid hA1
  have HB2 : Hid (Below w.heap.size w (w1.alloc (pObj x y))) := hb.alloc hb.size _
  have HT2 := Lib.hid ((Ats.nil w1).push x y)
  clear hA1 hb
  go_wp2_with fail
  refine (rCover_any p q r s _).mono ?_
  rintro e w3 ⟨u, v, m, rfl, hA2, hb⟩
  obtain ⟨rfl, rfl, rfl⟩ := HA1.out.det hA2
  have HB4 : Hid (Below w.heap.size w (w3.alloc (pObj x y))) := (HB2.out.trans (hb.mono HB2.out.size)).alloc (Nat.le_trans HB2.out.size hb.size) _
  have HA4 := Lib.hid ((HT2.out.after hb (Nat.le_refl _)).push x y)
  clear hA2 hb HA1 HB2 HT2
  have m0 := HA4.out.c0 0 rfl
  have m1 := HA4.out.c1 0 rfl
  have m2 := HA4.out.c0 1 rfl
  have m3 := HA4.out.c1 1 rfl
  go_wp2_with fail
  clear m0 m1 m2 m3
  refine (same_yes x y n _).mono ?_
  rintro e w5 ⟨rfl, hb⟩
  have HB5 := Lib.hid (HB4.out.trans (hb.mono HB4.out.size))
  clear hb
  go_wp2_with fail
  refine (alive_any _ (HD.out.below HB5.out (Nat.le_refl _)) (HT.out.below HB5.out (Nat.le_refl _))).mono ?_
  rintro e w6 ⟨rfl, hb⟩
  have HB6 := Lib.hid (HB5.out.trans (hb.mono HB5.out.size))
  go_wp2
  go_ret
  exact ⟨rfl, HB6.out⟩
end Go.Proofs.YtcncdepjbhnknaaGreatDoor
/- DetectCovers: for all integers the law returns true and each argument reads behind the call as it read before: the row without its closed facts. Conditions: the package-level variables that the row lists start as the text of the program lays them (the tie is given, over the pruned copy); the row is unfollowed and recurses. -/
namespace Go.Proofs.YtcncdepjbhnknaaGreatDoor
open Go.ChangeShapes Go.WideShapes Go.ChangeAt Go.RowKit

set_option maxRecDepth 100000 in
theorem covers_lifted (os : Os) (started : os.Started) (H : Type) (enc : TypeId × Value → H) :
    ReturnsInHanded {} Tryz.checked os 8 .any (fun w args => (Rows.detectCoversSpec.pre enc Tryz.prog Tryz.f8 Rows.detectCoversRow.domain false w args ∧ laidMetH Tryz.prog laid9 w) ∧ sizedMet enc Tryz.prog Tryz.f8 (OpenSpec.ofChange Rows.detectCoversSpec) false w args)
      (Rows.detectCoversSpec.post enc Tryz.prog Tryz.f8 false true false false) := by
  refine returnsInHanded_of_change_and (C := Tryz.checked) (X := fun w _ => laidMetH Tryz.prog laid9 w) (fun _ _ _ hh h => h.of_heap hh) own_seat started (by kernel_rfl) Tryz.func8
    (ChangeSpec.witness_shaped (enc := enc) (C := Tryz.checked) (os := os) (X := fun w _ => laidMetH Tryz.prog laid9 w) false (World.laidAll Tryz.prog os laid9) #[.int .i64 0, .int .i64 0, .int .i64 0, .int .i64 0] 8 (World.laidAll_os _ _ _)
      (World.shaped_of_ZipB (by kernel_rfl) (by kernel_rfl)) (by kernel_rfl) (by kernel_rfl) (by kernel_rfl) (met9 os _)) ?_
  intro W base args ds gs before hval0 hW hc _ hL _
  have hval : ∀ (j : Nat) t v, Tryz.f8.params[j]? = some t → args[j]? = some v → Value.okWide Tryz.prog W .any base t v := hval0
  have hW' := hW
  obtain ⟨p, q, hA0, hV, rfl, _, _⟩ := hW
  have hA : DataW.TrodAll enc Tryz.prog W 0 (fun _ => true) true Tryz.f8.params.toList args.toList ds p := hA0
  rw [Tryz.params8] at hA hval
  obtain ⟨v0, v1, v2, v3, d0, d1, d2, d3, p0, p1, p2, p3, rfl, rfl, rfl, h0, h1, h2, h3⟩ := trodAll_four hA
  obtain ⟨rfl, rfl⟩ := trodVars_none hV
  obtain ⟨a0, rfl, rfl, rfl, wa0⟩ := open_int Tryz.underlying3 (hval 0 _ v0 rfl rfl) h0
  have ha0 : -9223372036854775808 ≤ a0 ∧ a0 ≤ 9223372036854775807 := by simpa [Lit.wf, IntKind.min, IntKind.max, IntKind.signed, IntKind.bits] using wa0
  obtain ⟨a1, rfl, rfl, rfl, wa1⟩ := open_int Tryz.underlying3 (hval 1 _ v1 rfl rfl) h1
  have ha1 : -9223372036854775808 ≤ a1 ∧ a1 ≤ 9223372036854775807 := by simpa [Lit.wf, IntKind.min, IntKind.max, IntKind.signed, IntKind.bits] using wa1
  obtain ⟨a2, rfl, rfl, rfl, wa2⟩ := open_int Tryz.underlying3 (hval 2 _ v2 rfl rfl) h2
  have ha2 : -9223372036854775808 ≤ a2 ∧ a2 ≤ 9223372036854775807 := by simpa [Lit.wf, IntKind.min, IntKind.max, IntKind.signed, IntKind.bits] using wa2
  obtain ⟨a3, rfl, rfl, rfl, wa3⟩ := open_int Tryz.underlying3 (hval 3 _ v3 rfl rfl) h3
  have ha3 : -9223372036854775808 ≤ a3 ∧ a3 ≤ 9223372036854775807 := by simpa [Lit.wf, IntKind.min, IntKind.max, IntKind.signed, IntKind.bits] using wa3
  clear hA0 hval0
  simp only [List.append_nil] at hW'
  refine (covers_law a0 a1 a2 a3 ha0 ha1 ha2 ha3 W (detV_of_laid9 hL) (tabs_of_laid9 hL)).mono fun e W' ⟨he, bel⟩ => ?_
  subst he
  have nx : ∀ x ∈ ([] : List MemPlace), x.block < W.heap.size := fun _ h => by cases h
  refine ⟨_, rfl, _, _, _, [], [], [], hW', ?_, ?_, ?_, bel.frame _, fun h => by cases h⟩
  · exact trodAll_mk1 (shut_bool Tryz.underlying4 _)
  · have h9 := trodAll_mk4 (Below.trod out_seat (by kernel_rfl) (of_decide_eq_true (by kernel_rfl)) h0 bel nx) (Below.trod out_seat (by kernel_rfl) (of_decide_eq_true (by kernel_rfl)) h1 bel nx) (Below.trod out_seat (by kernel_rfl) (of_decide_eq_true (by kernel_rfl)) h2 bel nx) (Below.trod out_seat (by kernel_rfl) (of_decide_eq_true (by kernel_rfl)) h3 bel nx)
    first | exact h9 | (simp only [List.append_nil, List.nil_append] at h9; exact h9) | (simpa using h9)
  · rfl
end Go.Proofs.YtcncdepjbhnknaaGreatDoor
