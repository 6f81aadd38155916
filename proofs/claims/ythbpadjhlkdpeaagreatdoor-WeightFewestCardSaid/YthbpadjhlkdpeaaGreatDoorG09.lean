/- The parts Clone, Minus, Does of a proof, put together by program (merge.py). -/
import Derived.Test.YthbpadjhlkdpeaaGreatDoorG01
import Derived.Deep.AppendLies
import Derived.Test.YthbpadjhlkdpeaaGreatDoorG05
import Derived.Test.YthbpadjhlkdpeaaGreatDoorG08
import Derived.Test.YthbpadjhlkdpeaaGreatDoorG04
import Derived.Deep.RegionHeld3
import Derived.Deep.DrawnRows
/- slices.Clone of a number: the same limbs in memory of the call's own. -/
namespace Go.Proofs.YthbpadjhlkdpeaaGreatDoor
open Go.RowKit

theorem cells_at {k : IntKind} {w : World} {b off : Nat} {xs : List Nat} (h : At k w b off xs) : ∀ j u, (xs.map fun x : Nat => Value.int k (x : Nat))[j]? = some u → w.cell? ((⟨b, off, none⟩ : Addr).add j) = some u := by
  intro j u hu
  have hj : j < xs.length := by
    have := (List.getElem?_eq_some_iff.1 hu).1
    simpa using this
  rw [Addr.add_lit, h j hj, ← hu]
  simp [hj]
theorem oneCell_ints (k : IntKind) (xs : List Nat) : ∀ u ∈ xs.map (fun x : Nat => Value.int k (x : Nat)), u.oneCell' = true := by
  intro u hu
  obtain ⟨x, _, rfl⟩ := List.mem_map.1 hu
  rfl

set_option maxHeartbeats 1000000 in
theorem clone_some (b off cap : Nat) (xs : List Nat) (w : World) (hne : 0 < xs.length) (hl : xs.length ≤ 1000000) (hb : b < w.heap.size) (hc : At .u64 w b off xs) :
    Calls Tryz.prog 131 #[.slice (some ⟨b, off, none⟩) xs.length cap] w fun e w' =>
      ∃ g cap', e = .returned (.slice (some ⟨g, 0, none⟩) xs.length cap') ∧ Row .u64 113 w' w.heap.size g cap' xs ∧ Below w.heap.size w w' := by
  obtain ⟨i0, hi, hz0, hz1, hz2⟩ := info_parts info_u64
  have heq := fun (w : World) => Lib.run_eql_slice_nil (P := Tryz.prog) w 92 113 (some ⟨b, off, none⟩) xs.length cap 0 0 Tryz.underlying92
  have HC := Lib.hid hc
  clear hc
  go_enter Tryz.func131, Tryz.ntmps131
  go_wp2_with (at_builtin; refine wpList_append_lies _ rfl (.tmp 5) (.tmp 6) 92 rfl w.heap.size 113 i0 (.int .u64 0) 1 8 Tryz.underlying92 hi hz0 hz1 hz2 rfl (by decide) _ 0 [] rfl (World.ownsRow_lit w #[] 0 (Nat.le_refl _) (by simp [maxLen]) rfl) ⟨b, off, none⟩ xs.length cap _ rfl (by simp) (cells_at (HC.out.below ((Below.refl w.heap.size w).alloc (Nat.le_refl _) _) hb)) (oneCell_ints _ _) hne (by unfold maxLen; omega) (by omega) (by simp) (w.heap.size + 1) (by simp) ?_; intro g cap' w1 hown1 hgrow1 hat1 hlt1)
  have h0 : 0 + xs.length = xs.length := by omega
  rw [h0] at hown1
  have HR := Lib.hid hown1
  have HB := Lib.hid (((Below.refl w.heap.size w).alloc (Nat.le_refl _) (.cells #[] 113)).grown hgrow1 (by simp) (fun k h => by cases h; exact Nat.le_refl _))
  clear hown1 hgrow1 hat1
  go_wp2
  go_ret
  exact ⟨g, cap', rfl, by have := HR.out; simpa [Row] using this, HB.out⟩

set_option maxHeartbeats 1000000 in
theorem clone_empty (p : Option Addr) (cap : Nat) (w : World) :
    Calls Tryz.prog 131 #[.slice p 0 cap] w fun e w' =>
      ∃ q, e = .returned (.slice q 0 0) ∧ Below w.heap.size w w' := by
  obtain ⟨i0, hi, hz0, hz1, hz2⟩ := info_parts info_u64
  rcases p with _ | ad
  · have heq := fun (w : World) => Lib.run_eql_slice_nil (P := Tryz.prog) w 92 113 none 0 cap 0 0 Tryz.underlying92
    go_enter Tryz.func131, Tryz.ntmps131
    go_wp2
    go_ret
    exact ⟨_, rfl, Below.refl _ _⟩
  · have heq := fun (w : World) => Lib.run_eql_slice_nil (P := Tryz.prog) w 92 113 (some ad) 0 cap 0 0 Tryz.underlying92
    go_enter Tryz.func131, Tryz.ntmps131
    go_wp2_with (at_builtin; refine wpList_append_fits _ rfl (.tmp 5) (.tmp 6) 92 rfl w.heap.size 113 i0 1 Tryz.underlying92 hi hz1 w.heap.size 0 0 [] rfl (World.ownsRow_lit w #[] 0 (Nat.le_refl _) (by simp [maxLen]) rfl) ad 0 cap [] rfl (by simp) (by simp) (by simp) (by omega) ?_; intro w1 hown1 hgrow1)
    have HB := Lib.hid (((Below.refl w.heap.size w).alloc (Nat.le_refl _) (.cells #[] 113)).grown hgrow1 (by simp) (fun k h => by cases h; exact Nat.le_refl _))
    clear hown1 hgrow1
    go_wp2
    go_ret
    exact ⟨_, rfl, HB.out⟩
end Go.Proofs.YthbpadjhlkdpeaaGreatDoor
/- weight's number.minus: the difference to a number that is not greater. -/
namespace Go.Proofs.YthbpadjhlkdpeaaGreatDoor
open Go.RowKit

set_option maxRecDepth 100000 in
set_option maxHeartbeats 4000000 in
theorem minus_any {v1 v2 : Value} {n m : Nat} {w : World} (h1 : Num w v1 n) (h2 : Num w v2 m) (hmn : m ≤ n) (hl1 : (limbs 1000000000 n).length ≤ 1000000) :
    Calls Tryz.prog 92 #[v1, v2] w fun e w' => ∃ v, e = .returned v ∧ Num w' v (n - m) ∧ Below w.heap.size w w' := by
  have hlm := limbs_length_mono (B := 1000000000) (by omega) hmn
  obtain ⟨p1, c1, rfl, hc1, hc1m, hp1⟩ := h1
  obtain ⟨p2, c2, rfl, _, _, hp2⟩ := h2
  obtain ⟨xs, hxs⟩ : ∃ xs, limbs 1000000000 n = xs := ⟨_, rfl⟩
  obtain ⟨ys, hys⟩ : ∃ ys, limbs 1000000000 m = ys := ⟨_, rfl⟩
  rw [hxs] at hl1 hp1 hc1 hlm ⊢
  rw [hys] at hp2 hlm ⊢
  have HX : Hid (∀ x ∈ xs, x < 1000000000) := by rw [← hxs]; exact limbs_lt (by omega) n
  have HY : Hid (∀ x ∈ ys, x < 1000000000) := by rw [← hys]; exact limbs_lt (by omega) m
  have HV : Hid (val 1000000000 xs = n ∧ val 1000000000 ys = m) := by rw [← hxs, ← hys]; exact ⟨val_limbs (by omega) n, val_limbs (by omega) m⟩
  have HP2 := Lib.hid hp2
  clear hxs hys hp2
  rcases Nat.eq_zero_or_pos xs.length with h0 | h0
  · have hn : n = 0 := by rw [← HV.out.1, List.eq_nil_of_length_eq_zero h0]; rfl
    have hy0 : ys.length = 0 := by omega
    rw [h0] at hc1 ⊢
    go_enter Tryz.func92, Tryz.ntmps92
    go_wp2_with fail
    refine (clone_empty p1 c1 w).mono ?_
    rintro e w0 ⟨q, rfl, HB0⟩
    have HB0 := Lib.hid HB0
    go_wp2_with fail
    go_loopw [6, 13] (fun bb i wr => i = .int .i64 0 ∧ Hid (Below w.heap.size w wr)) (fun _ i _ => (intOf i).toNat)
    case atStart => exact ⟨rfl, HB0⟩
    case round =>
      obtain ⟨rfl, HB⟩ := hrel
      go_wp2_with fail
      refine (trim_calls q 0 [] _ (by simp) (by simp [maxLen]) (by simp) (by simp)).mono ?_
      rintro e w' ⟨rfl, rfl⟩
      go_wp2
      go_ret
      refine ⟨_, rfl, ?_, HB.out⟩
      subst hn
      have e0 : limbs 1000000000 (0 - m) = [] := by rw [Nat.zero_sub, limbs_zero]
      unfold Num
      rw [e0]
      exact ⟨q, 0, by simp [val, limbs_zero], by simp, by simp [maxLen], by simp⟩
  · obtain ⟨b1, off1, rfl, hb1, ha1⟩ := hp1 (List.ne_nil_of_length_pos h0)
    go_enter Tryz.func92, Tryz.ntmps92
    go_wp2_with fail
    refine (clone_some b1 off1 c1 xs w h0 hl1 hb1 ha1).mono ?_
    rintro e w0 ⟨g, cap, rfl, HR0, HB0⟩
    have HG : Hid (w.heap.size ≤ g) := HR0.lt.1
    have HR0 := Lib.hid HR0
    have HB0 := Lib.hid HB0
    go_wp2
    go_loopw [6, 13] (fun bb i wr => ∃ (k : Nat) (os : List Nat) (b : Nat), k ≤ xs.length ∧ i = .int .i64 k ∧ bb = .int .u64 b ∧
        Hid (MinusInv 1000000000 xs ys k os b) ∧ Hid (Row .u64 113 wr w.heap.size g cap (([] : List Nat) ++ (os ++ xs.drop k) ++ [])) ∧ Hid (Below w.heap.size w wr)) (fun _ i _ => xs.length - (intOf i).toNat)
    case atStart => exact ⟨0, [], 0, Nat.zero_le _, rfl, rfl, MinusInv.start _ _ _, by simpa using HR0, HB0⟩
    case round =>
      obtain ⟨k, os, bw, hk, rfl, rfl, HI, HR, HB⟩ := hrel
      have hbw := HI.out.borrow
      by_cases hlt : k < xs.length
      · obtain ⟨p, hp⟩ : ∃ p, xs.getD k 0 = p := ⟨_, rfl⟩
        have hpl : p < 1000000000 := by rw [← hp]; exact getD_lt (by omega) HX.out k
        have hd : xs.drop k = p :: xs.drop (k + 1) := by rw [List.drop_eq_getElem_cons hlt]; subst hp; simp [List.getD, hlt]
        have HR1 : Hid (Row .u64 113 wr w.heap.size g cap (([] : List Nat) ++ (os ++ p :: xs.drop (k + 1)) ++ [])) := by have := HR.out; rw [hd] at this; exact this
        have hidx : k = ([] : List Nat).length + os.length := by rw [HI.out.len]; simp
        have cp : wr.cell? ⟨g, k, none⟩ = some (.int .u64 (p : Nat)) := HR1.out.cell (by rw [hidx]; exact len_mid _ _ _ _ _) (getD_mid _ _ _ _ _ _ hidx)
        have fp : wr.frozen? ⟨g, k, none⟩ = false := HR1.out.frozen _
        have HIX := Lib.hid hidx
        have Hp := Lib.hid hp
        clear hp hd hidx HR
        by_cases hlt2 : k < ys.length
        · obtain ⟨b2, off2, rfl, hb2, ha2⟩ := HP2.out (List.ne_nil_of_length_pos (by omega))
          obtain ⟨y, hy⟩ : ∃ y, ys.getD k 0 = y := ⟨_, rfl⟩
          have hyl : y < 1000000000 := by rw [← hy]; exact getD_lt (by omega) HY.out k
          have cy : wr.cell? ⟨b2, off2 + k, none⟩ = some (.int .u64 (y : Nat)) := (HB.out.cell (p := ⟨b2, off2 + k, none⟩) hb2).trans (ha2.getD hlt2 hy)
          have Hy := Lib.hid hy
          clear hy ha2
          by_cases hlt3 : p < bw + y
          · have hlt3' : (p : Int) < (bw : Int) + y := by omega
            have E1 : Hid ((p : Int) + 1000000000 - ((bw : Int) + y) = (p + 1000000000 - (bw + y) : Nat)) := by show _ = _; omega
            have HS := HI.out.step_borrow (by omega) HY.out (less := bw + y) (by have h := Hy.out; omega) (by rw [Hp.out]; exact hlt3)
            rw [Hp.out] at HS
            have HS := Lib.hid HS
            clear hlt3
            go_wp2
            go_roundw
            case rel => exact ⟨k + 1, _, 1, by omega, by go_num, rfl, HS, row_set2 HR1.out HIX.out (n := p + 1000000000) (by omega) E1.out, (HB.out.setCell HG.out _).setCell HG.out _⟩
            case measure => simp [intOf]; omega
          · have hlt3' : ¬ (p : Int) < (bw : Int) + y := by omega
            have E1 : Hid ((p : Int) - ((bw : Int) + y) = (p - (bw + y) : Nat)) := by show _ = _; omega
            have HS := HI.out.step_plain HX.out (by omega) (less := bw + y) (by have h := Hy.out; omega) (by rw [Hp.out]; omega)
            rw [Hp.out] at HS
            have HS := Lib.hid HS
            clear hlt3
            go_wp2
            go_roundw
            case rel => exact ⟨k + 1, _, 0, by omega, by go_num, rfl, HS, row_set1 HR1.out HIX.out E1.out, HB.out.setCell HG.out _⟩
            case measure => simp [intOf]; omega
        · have Hy : Hid (ys.getD k 0 = 0) := by show _ = _; simp [List.getD, hlt2]
          by_cases hlt3 : p < bw
          · have hlt3' : (p : Int) < (bw : Int) := by omega
            have E1 : Hid ((p : Int) + 1000000000 - ((bw : Int)) = (p + 1000000000 - (bw) : Nat)) := by show _ = _; omega
            have HS := HI.out.step_borrow (by omega) HY.out (less := bw) (by have h := Hy.out; omega) (by rw [Hp.out]; exact hlt3)
            rw [Hp.out] at HS
            have HS := Lib.hid HS
            clear hlt3
            go_wp2
            go_roundw
            case rel => exact ⟨k + 1, _, 1, by omega, by go_num, rfl, HS, row_set2 HR1.out HIX.out (n := p + 1000000000) (by omega) E1.out, (HB.out.setCell HG.out _).setCell HG.out _⟩
            case measure => simp [intOf]; omega
          · have hlt3' : ¬ (p : Int) < (bw : Int) := by omega
            have E1 : Hid ((p : Int) - ((bw : Int)) = (p - (bw) : Nat)) := by show _ = _; omega
            have HS := HI.out.step_plain HX.out (by omega) (less := bw) (by have h := Hy.out; omega) (by rw [Hp.out]; omega)
            rw [Hp.out] at HS
            have HS := Lib.hid HS
            clear hlt3
            go_wp2
            go_roundw
            case rel => exact ⟨k + 1, _, 0, by omega, by go_num, rfl, HS, row_set1 HR1.out HIX.out E1.out, HB.out.setCell HG.out _⟩
            case measure => simp [intOf]; omega
      · obtain rfl : k = xs.length := by omega
        have HR2 : Hid (Row .u64 113 wr w.heap.size g cap os) := by have := HR.out; show Row _ _ _ _ _ _ _; simpa using this
        have HL : Hid (∀ z ∈ os, z < 1000000000) := HI.out.lt
        have HD : Hid (val 1000000000 os = n - m) := by show _ = _; rw [HI.out.done hlm (by rw [HV.out.1, HV.out.2]; exact hmn), HV.out.1, HV.out.2]
        go_wp2_with fail
        refine (trim_row HR2.out HL.out _ HI.out.len.symm _ HD.out).mono ?_
        rintro e w' ⟨rfl, rfl, hr2⟩
        have HR3 := Lib.hid hr2
        clear hr2
        go_wp2
        go_ret
        exact ⟨_, rfl, HR3.out.nums, HB.out⟩
end Go.Proofs.YthbpadjhlkdpeaaGreatDoor
/- weight's two, and what Mul, Div, Add, Sub do with two fractions. -/
namespace Go.Proofs.YthbpadjhlkdpeaaGreatDoor
open Go.RowKit Go.Shelf
attribute [local go_sem ↓] Go.wp_at_zero Go.wp_at_succ



theorem times_num {v1 v2 : Value} {n m : Nat} {w : World} (h1 : Num w v1 n) (h2 : Num w v2 m) (l1 : (limbs 1000000000 n).length ≤ 1000) (l2 : (limbs 1000000000 m).length ≤ 1000) :
    Calls Tryz.prog 64 #[v1, v2] w (NumPost w (n * m)) := by
  refine (times_any h1 h2 (by omega) (by omega)).mono ?_
  rintro e w' ⟨v, rfl, h, hb⟩
  exact ⟨v, rfl, h.num, hb⟩
theorem plus_num {v1 v2 : Value} {n m : Nat} {w : World} (h1 : Num w v1 n) (h2 : Num w v2 m) (l1 : (limbs 1000000000 n).length ≤ 100000) (l2 : (limbs 1000000000 m).length ≤ 100000) :
    Calls Tryz.prog 89 #[v1, v2] w (NumPost w (n + m)) := by
  refine (plus_any h1 h2 (by omega) (by omega)).mono ?_
  rintro e w' ⟨v, rfl, h, hb⟩
  exact ⟨v, rfl, h.num, hb⟩
theorem minus_num {v1 v2 : Value} {n m : Nat} {w : World} (h1 : Num w v1 n) (h2 : Num w v2 m) (hmn : m ≤ n) (l1 : (limbs 1000000000 n).length ≤ 100000) :
    Calls Tryz.prog 92 #[v1, v2] w (NumPost w (n - m)) := minus_any h1 h2 hmn (by omega)

theorem mul_lims {n m k l : Nat} (h1 : (limbs 1000000000 n).length ≤ k) (h2 : (limbs 1000000000 m).length ≤ l) : (limbs 1000000000 (n * m)).length ≤ k + l := by
  refine limbs_length_le (by omega) ?_
  have a1 := val_lt (limbs_lt (B := 1000000000) (by omega) n)
  have a2 := val_lt (limbs_lt (B := 1000000000) (by omega) m)
  rw [val_limbs (by omega)] at a1 a2
  rw [Nat.pow_add]
  refine Nat.mul_lt_mul'' (Nat.lt_of_lt_of_le a1 (Nat.pow_le_pow_right (by omega) h1)) (Nat.lt_of_lt_of_le a2 (Nat.pow_le_pow_right (by omega) h2))
theorem mul_lim {n m : Nat} (h1 : (limbs 1000000000 n).length ≤ 1000) (h2 : (limbs 1000000000 m).length ≤ 1000) : (limbs 1000000000 (n * m)).length ≤ 100000 := Nat.le_trans (mul_lims h1 h2) (by omega)

set_option maxRecDepth 100000 in
set_option maxHeartbeats 4000000 in
theorem mul1_any {v1 v2 v3 v4 : Value} {n1 d1 n2 d2 : Nat} {w : World} (h1 : Num w v1 n1) (h2 : Num w v2 d1) (h3 : Num w v3 n2) (h4 : Num w v4 d2)
    (l1 : (limbs 1000000000 n1).length ≤ 1000) (l2 : (limbs 1000000000 d1).length ≤ 1000) (l3 : (limbs 1000000000 n2).length ≤ 1000) (l4 : (limbs 1000000000 d2).length ≤ 1000) (hd1 : 0 < d1) (hd2 : 0 < d2) (hT : Tabs w) :
    Calls Tryz.prog 63 #[.agg #[v1, v2], .agg #[v3, v4]] w (PartPost (Ans (mkRat ((n1 * n2 : Nat) : Int) (d1 * d2))) w) := by
  obtain ⟨p1, m1, c1, rfl⟩ := h1.form'
  obtain ⟨p2, m2, c2, rfl⟩ := h2.form'
  obtain ⟨p3, m3, c3, rfl⟩ := h3.form'
  obtain ⟨p4, m4, c4, rfl⟩ := h4.form'
  have H1 := Lib.hid h1
  have H2 := Lib.hid h2
  have H3 := Lib.hid h3
  have H4 := Lib.hid h4
  have HT := Lib.hid hT
  clear h1 h2 h3 h4 hT
  have HL1 : Hid ((limbs 1000000000 (n1 * n2)).length ≤ 100000) := mul_lim l1 l3
  have HL2 : Hid ((limbs 1000000000 (d1 * d2)).length ≤ 100000) := mul_lim l2 l4
  have HD : Hid (0 < d1 * d2) := Nat.mul_pos hd1 hd2
  go_enter Tryz.func63, Tryz.ntmps63
  go_wp2_with fail
  obtain ⟨w1, hw1⟩ : ∃ w1, ((w.alloc (.cells #[.slice p1 m1 c1, .slice p2 m2 c2] 94)).alloc (.cells #[.slice p3 m3 c3, .slice p4 m4 c4] 94)).alloc (.cells #[.string ⟨#[]⟩, .string ⟨#[]⟩] 24) = w1 := ⟨_, rfl⟩
  rw [hw1]
  have HX1 : Hid (Boxes w.heap.size [.cells #[.slice p1 m1 c1, .slice p2 m2 c2] 94, .cells #[.slice p3 m3 c3, .slice p4 m4 c4] 94, .cells #[.string ⟨#[]⟩, .string ⟨#[]⟩] 24] w1) := by rw [← hw1]; exact Boxes.three w _ _ _
  have HB1 : Hid (Below w.heap.size w w1) := by rw [← hw1]; exact (((Below.refl _ w).alloc (Nat.le_refl _) _).alloc (by simp) _).alloc (by simp <;> omega) _
  clear hw1
  have ka1 := HX1.out.cell 0 0 (b := w.heap.size) rfl rfl rfl
  have kb1 := HX1.out.cell 0 1 (b := w.heap.size) rfl rfl rfl
  have kc1 := HX1.out.cell 1 0 (b := w.heap.size + 1) rfl rfl rfl
  have kd1 := HX1.out.cell 1 1 (b := w.heap.size + 1) rfl rfl rfl
  go_region_held3
    (fun w' => w'.cell? ⟨w.heap.size, 0, none⟩ = some (.slice p1 m1 c1) ∧ w'.cell? ⟨w.heap.size, 1, none⟩ = some (.slice p2 m2 c2) ∧ w'.cell? ⟨w.heap.size + 1, 0, none⟩ = some (.slice p3 m3 c3) ∧ w'.cell? ⟨w.heap.size + 1, 1, none⟩ = some (.slice p4 m4 c4))
    (first | exact ⟨ka1, kb1, kc1, kd1⟩ | exact ⟨ka2, kb2, kc2, kd2⟩ | exact ⟨ka3, kb3, kc3, kd3⟩ | exact ⟨ka4, kb4, kc4, kd4⟩ | exact ⟨ka5, kb5, kc5, kd5⟩ | exact ⟨ka6, kb6, kc6, kd6⟩ | exact ⟨(other_put _ _ _ (by omega) _).trans ka9, (other_put _ _ _ (by omega) _).trans kb9, (other_put _ _ _ (by omega) _).trans kc9, (other_put _ _ _ (by omega) _).trans kd9⟩ | exact ⟨ka9, kb9, kc9, kd9⟩)
    (first
      | (go_at_call_of 64 (Value.slice p1 m1 c1); refine (times_num (H1.out.after HB1.out.drew (Nat.le_refl _)) (H3.out.after HB1.out.drew (Nat.le_refl _)) l1 l3).mono ?_; rintro e w4 ⟨va, rfl, hv, hb⟩; obtain ⟨pa, ma, ca, rfl⟩ := hv.form'; have HA := Lib.hid hv;  have HX4 := Lib.hid (HX1.out.drew.below hb HX1.out.lt); have HB4 : Hid (Below w.heap.size w w4) := HB1.out.drew.trans (hb.mono HB1.out.drew.size); have ka4 := HX4.out.cell 0 0 (b := w.heap.size) rfl rfl rfl; have kb4 := HX4.out.cell 0 1 (b := w.heap.size) rfl rfl rfl; have kc4 := HX4.out.cell 1 0 (b := w.heap.size + 1) rfl rfl rfl; have kd4 := HX4.out.cell 1 1 (b := w.heap.size + 1) rfl rfl rfl; clear hv hb)
      | (go_at_call_of 64 (Value.slice p2 m2 c2); refine (times_num (H2.out.after HB4.out (Nat.le_refl _)) (H4.out.after HB4.out (Nat.le_refl _)) l2 l4).mono ?_; rintro e w5 ⟨vb, rfl, hv, hb⟩; obtain ⟨pb, mb, cb, rfl⟩ := hv.form'; have HC := Lib.hid hv; have HA5 := Lib.hid (HA.out.after hb (Nat.le_refl _)); have HX5 := Lib.hid (HX4.out.below hb HX4.out.lt); have HB5 : Hid (Below w.heap.size w w5) := HB4.out.trans (hb.mono HB4.out.size); have ka5 := HX5.out.cell 0 0 (b := w.heap.size) rfl rfl rfl; have kb5 := HX5.out.cell 0 1 (b := w.heap.size) rfl rfl rfl; have kc5 := HX5.out.cell 1 0 (b := w.heap.size + 1) rfl rfl rfl; have kd5 := HX5.out.cell 1 1 (b := w.heap.size + 1) rfl rfl rfl; clear hv hb)
      | (go_at_call 65; refine (part_any HA5.out HC.out HL1.out HL2.out HD.out (HT.out.below HB5.out (Nat.le_refl _))).mono ?_; rintro e w9 ⟨x, y, n, rfl, hR, hb9⟩; have HR := Lib.hid hR; have HX9 := Lib.hid (HX5.out.below hb9 HX5.out.lt); have HB9 : Hid (Below w.heap.size w w9) := HB5.out.trans (hb9.mono HB5.out.size); have ka9 := HX9.out.cell 0 0 (b := w.heap.size) rfl rfl rfl; have kb9 := HX9.out.cell 0 1 (b := w.heap.size) rfl rfl rfl; have kc9 := HX9.out.cell 1 0 (b := w.heap.size + 1) rfl rfl rfl; have kd9 := HX9.out.cell 1 1 (b := w.heap.size + 1) rfl rfl rfl; have r0 := HX9.out.cell 2 0 (b := w.heap.size + 1 + 1) rfl rfl rfl; have r1 := HX9.out.cell 2 1 (b := w.heap.size + 1 + 1) rfl rfl rfl; have f0 := HX9.out.free 2 0 (b := w.heap.size + 1 + 1) rfl rfl; have f1 := HX9.out.free 2 1 (b := w.heap.size + 1 + 1) rfl rfl; clear hR hb9)
    )
  all_goals
    have q := two_put_cells (HX9.out.block 2 (b := w.heap.size + 1 + 1) rfl rfl) (.string x) (.string y)
    have HBQ := Lib.hid (two_put_below HB9.out (b := w.heap.size + 1 + 1) (by omega) (.string x) (.string y))
    obtain ⟨wz, hwz⟩ : ∃ wz, (w9.setCell ⟨w.heap.size + 1 + 1, 0, none⟩ (.string x)).setCell ⟨w.heap.size + 1 + 1, 1, none⟩ (.string y) = wz := ⟨_, rfl⟩
    rw [hwz] at q HBQ
    obtain ⟨q0, q1⟩ := q
    rw [hwz]
    clear r0 r1 f0 f1 hwz
    go_wp2
    refine bodyPost_ret (v := .tuple #[.agg #[.string x, .string y], .int .i64 n]) (by simp [results, Tryz.f63, go_sem, q0, q1]) rfl ⟨_, _, _, rfl, HR.out, HBQ.out⟩

set_option maxRecDepth 100000 in
set_option maxHeartbeats 4000000 in
theorem div1_zero {v1 v2 v3 v4 : Value} {n1 d1 n2 d2 : Nat} {w : World} (h1 : Num w v1 n1) (h2 : Num w v2 d1) (h3 : Num w v3 n2) (h4 : Num w v4 d2)
    (l1 : (limbs 1000000000 n1).length ≤ 1000) (l2 : (limbs 1000000000 d1).length ≤ 1000) (l3 : (limbs 1000000000 n2).length ≤ 1000) (l4 : (limbs 1000000000 d2).length ≤ 1000) (hd1 : 0 < d1) (hd2 : 0 < d2) (hT : Tabs w) (h0 : n2 = 0) :
    Calls Tryz.prog 70 #[.agg #[v1, v2], .agg #[v3, v4]] w (PartPost (fun s t e => s = str [] ∧ t = str [] ∧ e = 10) w) := by
  subst h0
  obtain ⟨p3, c3, rfl, _, _, _⟩ := h3
  obtain ⟨p1, m1, c1, rfl⟩ := h1.form'
  obtain ⟨p2, m2, c2, rfl⟩ := h2.form'
  obtain ⟨p4, m4, c4, rfl⟩ := h4.form'
  rw [limbs_zero, List.length_nil]
  obtain ⟨m3, hm3⟩ : ∃ m, 0 = m := ⟨_, rfl⟩
  have hm : ((m3 : Nat) : Int) == 0 := by simp; omega
  clear h1 h2 h4
  rw [hm3]
  have HM3 := Lib.hid hm3
  clear hm3
  go_enter Tryz.func70, Tryz.ntmps70
  go_wp2_with fail
  obtain ⟨w1, hw1⟩ : ∃ w1, ((w.alloc (.cells #[.slice p1 m1 c1, .slice p2 m2 c2] 94)).alloc (.cells #[.slice p3 m3 c3, .slice p4 m4 c4] 94)).alloc (.cells #[.string ⟨#[]⟩, .string ⟨#[]⟩] 24) = w1 := ⟨_, rfl⟩
  rw [hw1]
  have HX1 : Hid (Boxes w.heap.size [.cells #[.slice p1 m1 c1, .slice p2 m2 c2] 94, .cells #[.slice p3 m3 c3, .slice p4 m4 c4] 94, .cells #[.string ⟨#[]⟩, .string ⟨#[]⟩] 24] w1) := by rw [← hw1]; exact Boxes.three w _ _ _
  have HB1 : Hid (Below w.heap.size w w1) := by rw [← hw1]; exact (((Below.refl _ w).alloc (Nat.le_refl _) _).alloc (by simp) _).alloc (by simp <;> omega) _
  clear hw1
  have r0 := HX1.out.cell 2 0 (b := w.heap.size + 1 + 1) rfl rfl rfl
  have r1 := HX1.out.cell 2 1 (b := w.heap.size + 1 + 1) rfl rfl rfl
  refine bodyPost_ret (v := .tuple #[.agg #[.string ⟨#[]⟩, .string ⟨#[]⟩], .int .i64 10]) (by simp [results, Tryz.f70, go_sem, r0, r1]) rfl ⟨_, _, _, rfl, ?_, HB1.out⟩
  exact ⟨rfl, rfl, rfl⟩

set_option maxRecDepth 100000 in
set_option maxHeartbeats 4000000 in
theorem div1_any {v1 v2 v3 v4 : Value} {n1 d1 n2 d2 : Nat} {w : World} (h1 : Num w v1 n1) (h2 : Num w v2 d1) (h3 : Num w v3 n2) (h4 : Num w v4 d2)
    (l1 : (limbs 1000000000 n1).length ≤ 1000) (l2 : (limbs 1000000000 d1).length ≤ 1000) (l3 : (limbs 1000000000 n2).length ≤ 1000) (l4 : (limbs 1000000000 d2).length ≤ 1000) (hd1 : 0 < d1) (hd2 : 0 < d2) (hT : Tabs w) (h0 : 0 < n2) :
    Calls Tryz.prog 70 #[.agg #[v1, v2], .agg #[v3, v4]] w (PartPost (Ans (mkRat ((n1 * d2 : Nat) : Int) (d1 * n2))) w) := by
  obtain ⟨m0, hm0⟩ : ∃ m, (limbs 1000000000 n2).length = m := ⟨_, rfl⟩
  have hmp := (limbs_length_pos (B := 1000000000) (by omega)).2 h0
  obtain ⟨p3, c3, rfl⟩ := h3.form
  rw [hm0] at h3 hmp l3 ⊢
  obtain ⟨m3, rfl⟩ : ∃ m, m0 = m := ⟨_, rfl⟩
  have hz : (((m0 : Nat) : Int) == 0) = false := by rw [beq_eq_false_iff_ne]; omega
  have L3 : Hid ((limbs 1000000000 n2).length ≤ 1000) := by show _ ≤ _; rw [hm0]; exact l3
  clear hm0
  obtain ⟨p1, m1, c1, rfl⟩ := h1.form'
  obtain ⟨p2, m2, c2, rfl⟩ := h2.form'
  obtain ⟨p4, m4, c4, rfl⟩ := h4.form'
  have H1 := Lib.hid h1
  have H2 := Lib.hid h2
  have H3 := Lib.hid h3
  have H4 := Lib.hid h4
  have HT := Lib.hid hT
  clear h1 h2 h3 h4 hT
  obtain ⟨m3, hm3⟩ : ∃ m, m0 = m := ⟨_, rfl⟩
  subst hm3
  have HL1 : Hid ((limbs 1000000000 (n1 * d2)).length ≤ 100000) := mul_lim l1 l4
  have HL2 : Hid ((limbs 1000000000 (d1 * n2)).length ≤ 100000) := mul_lim l2 L3.out
  have HD : Hid (0 < d1 * n2) := Nat.mul_pos hd1 h0
  go_enter Tryz.func70, Tryz.ntmps70
  go_wp2_with fail
  obtain ⟨w1, hw1⟩ : ∃ w1, ((w.alloc (.cells #[.slice p1 m1 c1, .slice p2 m2 c2] 94)).alloc (.cells #[.slice p3 m0 c3, .slice p4 m4 c4] 94)).alloc (.cells #[.string ⟨#[]⟩, .string ⟨#[]⟩] 24) = w1 := ⟨_, rfl⟩
  rw [hw1]
  have HX1 : Hid (Boxes w.heap.size [.cells #[.slice p1 m1 c1, .slice p2 m2 c2] 94, .cells #[.slice p3 m0 c3, .slice p4 m4 c4] 94, .cells #[.string ⟨#[]⟩, .string ⟨#[]⟩] 24] w1) := by rw [← hw1]; exact Boxes.three w _ _ _
  have HB1 : Hid (Below w.heap.size w w1) := by rw [← hw1]; exact (((Below.refl _ w).alloc (Nat.le_refl _) _).alloc (by simp) _).alloc (by simp <;> omega) _
  clear hw1
  have ka1 := HX1.out.cell 0 0 (b := w.heap.size) rfl rfl rfl
  have kb1 := HX1.out.cell 0 1 (b := w.heap.size) rfl rfl rfl
  have kc1 := HX1.out.cell 1 0 (b := w.heap.size + 1) rfl rfl rfl
  have kd1 := HX1.out.cell 1 1 (b := w.heap.size + 1) rfl rfl rfl
  go_wp2_with fail
  go_region_held3
    (fun w' => w'.cell? ⟨w.heap.size, 0, none⟩ = some (.slice p1 m1 c1) ∧ w'.cell? ⟨w.heap.size, 1, none⟩ = some (.slice p2 m2 c2) ∧ w'.cell? ⟨w.heap.size + 1, 0, none⟩ = some (.slice p3 m0 c3) ∧ w'.cell? ⟨w.heap.size + 1, 1, none⟩ = some (.slice p4 m4 c4))
    (first | exact ⟨ka1, kb1, kc1, kd1⟩ | exact ⟨ka2, kb2, kc2, kd2⟩ | exact ⟨ka3, kb3, kc3, kd3⟩ | exact ⟨ka4, kb4, kc4, kd4⟩ | exact ⟨ka5, kb5, kc5, kd5⟩ | exact ⟨ka6, kb6, kc6, kd6⟩ | exact ⟨(other_put _ _ _ (by omega) _).trans ka9, (other_put _ _ _ (by omega) _).trans kb9, (other_put _ _ _ (by omega) _).trans kc9, (other_put _ _ _ (by omega) _).trans kd9⟩ | exact ⟨ka9, kb9, kc9, kd9⟩)
    (first
      | (go_at_call_of 64 (Value.slice p1 m1 c1); refine (times_num (H1.out.after HB1.out.drew (Nat.le_refl _)) (H4.out.after HB1.out.drew (Nat.le_refl _)) l1 l4).mono ?_; rintro e w4 ⟨va, rfl, hv, hb⟩; obtain ⟨pa, ma, ca, rfl⟩ := hv.form'; have HA := Lib.hid hv;  have HX4 := Lib.hid (HX1.out.drew.below hb HX1.out.lt); have HB4 : Hid (Below w.heap.size w w4) := HB1.out.drew.trans (hb.mono HB1.out.drew.size); have ka4 := HX4.out.cell 0 0 (b := w.heap.size) rfl rfl rfl; have kb4 := HX4.out.cell 0 1 (b := w.heap.size) rfl rfl rfl; have kc4 := HX4.out.cell 1 0 (b := w.heap.size + 1) rfl rfl rfl; have kd4 := HX4.out.cell 1 1 (b := w.heap.size + 1) rfl rfl rfl; clear hv hb)
      | (go_at_call_of 64 (Value.slice p2 m2 c2); refine (times_num (H2.out.after HB4.out (Nat.le_refl _)) (H3.out.after HB4.out (Nat.le_refl _)) l2 L3.out).mono ?_; rintro e w5 ⟨vb, rfl, hv, hb⟩; obtain ⟨pb, mb, cb, rfl⟩ := hv.form'; have HC := Lib.hid hv; have HA5 := Lib.hid (HA.out.after hb (Nat.le_refl _)); have HX5 := Lib.hid (HX4.out.below hb HX4.out.lt); have HB5 : Hid (Below w.heap.size w w5) := HB4.out.trans (hb.mono HB4.out.size); have ka5 := HX5.out.cell 0 0 (b := w.heap.size) rfl rfl rfl; have kb5 := HX5.out.cell 0 1 (b := w.heap.size) rfl rfl rfl; have kc5 := HX5.out.cell 1 0 (b := w.heap.size + 1) rfl rfl rfl; have kd5 := HX5.out.cell 1 1 (b := w.heap.size + 1) rfl rfl rfl; clear hv hb)
      | (go_at_call 65; refine (part_any HA5.out HC.out HL1.out HL2.out HD.out (HT.out.below HB5.out (Nat.le_refl _))).mono ?_; rintro e w9 ⟨x, y, n, rfl, hR, hb9⟩; have HR := Lib.hid hR; have HX9 := Lib.hid (HX5.out.below hb9 HX5.out.lt); have HB9 : Hid (Below w.heap.size w w9) := HB5.out.trans (hb9.mono HB5.out.size); have ka9 := HX9.out.cell 0 0 (b := w.heap.size) rfl rfl rfl; have kb9 := HX9.out.cell 0 1 (b := w.heap.size) rfl rfl rfl; have kc9 := HX9.out.cell 1 0 (b := w.heap.size + 1) rfl rfl rfl; have kd9 := HX9.out.cell 1 1 (b := w.heap.size + 1) rfl rfl rfl; have r0 := HX9.out.cell 2 0 (b := w.heap.size + 1 + 1) rfl rfl rfl; have r1 := HX9.out.cell 2 1 (b := w.heap.size + 1 + 1) rfl rfl rfl; have f0 := HX9.out.free 2 0 (b := w.heap.size + 1 + 1) rfl rfl; have f1 := HX9.out.free 2 1 (b := w.heap.size + 1 + 1) rfl rfl; clear hR hb9)
    )
  all_goals
    have q := two_put_cells (HX9.out.block 2 (b := w.heap.size + 1 + 1) rfl rfl) (.string x) (.string y)
    have HBQ := Lib.hid (two_put_below HB9.out (b := w.heap.size + 1 + 1) (by omega) (.string x) (.string y))
    obtain ⟨wz, hwz⟩ : ∃ wz, (w9.setCell ⟨w.heap.size + 1 + 1, 0, none⟩ (.string x)).setCell ⟨w.heap.size + 1 + 1, 1, none⟩ (.string y) = wz := ⟨_, rfl⟩
    rw [hwz] at q HBQ
    obtain ⟨q0, q1⟩ := q
    rw [hwz]
    clear r0 r1 f0 f1 hwz
    go_wp2
    refine bodyPost_ret (v := .tuple #[.agg #[.string x, .string y], .int .i64 n]) (by simp [results, Tryz.f70, go_sem, q0, q1]) rfl ⟨_, _, _, rfl, HR.out, HBQ.out⟩

end Go.Proofs.YthbpadjhlkdpeaaGreatDoor
