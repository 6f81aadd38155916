/- The parts RPlus, RInt, RInt2 of a proof, put together by program (merge6.py). -/
import Derived.Test.YtcncdepjbhnknaaGreatDoorK01
import Derived.Test.YtcncdepjbhnknaaGreatDoorK02
import Derived.Test.YtcncdepjbhnknaaGreatDoorH12
set_option linter.unusedVariables false
set_option linter.unusedSimpArgs false
/- The document's plus: the sum of two numbers. -/
namespace Go.Proofs.YtcncdepjbhnknaaGreatDoor
open Go.RowKit
set_option maxRecDepth 100000 in
set_option maxHeartbeats 4000000 in
theorem rplus_any {v1 v2 : Value} {n m : Nat} {w : World} (h1 : PNum w v1 n) (h2 : PNum w v2 m) (hl1 : (limbs 10000 n).length ≤ 1000000) (hl2 : (limbs 10000 m).length ≤ 1000000) :
    Calls Tryz.prog 123 #[v1, v2] w (PPost w (n + m)) := by
  obtain ⟨i0, hi, hz0, hz1, hz2⟩ := info_parts info_int
  obtain ⟨p1, c1, rfl, _, _, hp1⟩ := h1.1
  obtain ⟨p2, c2, rfl, _, _, hp2⟩ := h2.1
  obtain ⟨xs, hxs⟩ : ∃ xs, limbs 10000 n = xs := ⟨_, rfl⟩
  obtain ⟨ys, hys⟩ : ∃ ys, limbs 10000 m = ys := ⟨_, rfl⟩
  have HXS : Hid (limbs 10000 n = xs ∧ limbs 10000 m = ys) := ⟨hxs, hys⟩
  rw [hxs] at hl1 hp1 ⊢
  rw [hys] at hl2 hp2 ⊢
  have HX : Hid (∀ x ∈ xs, x < 10000) := by rw [← hxs]; exact limbs_lt (by omega) n
  have HY : Hid (∀ x ∈ ys, x < 10000) := by rw [← hys]; exact limbs_lt (by omega) m
  have HP1 := Lib.hid hp1
  have HP2 := Lib.hid hp2
  clear hxs hys hp1 hp2
  go_enter Tryz.func123, Tryz.ntmps123
  go_wp2
  go_loopw [5, 6, 7] (fun vo vc vi wr => ∃ (k c : Nat) (out : List Nat), vi = .int .i64 k ∧ vc = .int .i64 c ∧ k ≤ 1000001 ∧ c ≤ 1 ∧ Hid (SumInv 10000 xs ys k out c) ∧ Hid (Grow .i64 3 wr w.heap.size vo out) ∧ Hid (out.length = k) ∧ Hid (Below w.heap.size w wr)) (fun _ vc vi _ => 2 * 1000002 - 2 * (intOf vi).toNat + (intOf vc).toNat)
  case atStart => exact ⟨0, 0, [], rfl, rfl, by omega, by omega, SumInv.start _ _ _, Grow.nil, rfl, Below.refl _ _⟩
  case round =>
    obtain ⟨k, c, out, rfl, rfl, hk6, hc1, HI, HO, HLEN, HB⟩ := hrel
    obtain ⟨po, no, co, rfl⟩ : ∃ p n c, u5 = .slice p n c := by obtain ⟨q, c, h⟩ := HO.out.form; exact ⟨_, _, _, h⟩
    by_cases hgo : k < xs.length ∨ k < ys.length ∨ 0 < c
    · have hm1 : k + 1 ≤ maxLen := by unfold maxLen; omega
      have hm2 : (k + 1) * 8 ≤ 140737488355328 := by omega
      have HGO : Hid (k < (limbs 10000 n).length ∨ k < (limbs 10000 m).length ∨ 0 < c) := by rw [HXS.out.1, HXS.out.2]; exact hgo
      have HST : Hid (∀ x, x = xs.getD k 0 + c + ys.getD k 0 → SumInv 10000 xs ys (k + 1) (out ++ [x % 10000]) (x / 10000)) := fun x hx => by
        have h1 := HI.out
        have h2 := HGO.out
        obtain ⟨e1, e2⟩ := HXS.out
        rw [← e1, ← e2] at h1 hx ⊢
        exact h1.step (by omega) hx h2
      by_cases hlt1 : k < xs.length
      · obtain ⟨b1, o1, rfl, hb1, a1⟩ := HP1.out (List.ne_nil_of_length_pos (by omega))
        obtain ⟨x, hx⟩ : ∃ x, xs.getD k 0 = x := ⟨_, rfl⟩
        have hxl : x < 10000 := by rw [← hx]; exact getD_lt (by omega) HX.out k
        have cx : wr.cell? ⟨b1, o1 + k, none⟩ = some (.int .i64 (x : Nat)) := (HB.out.cell (p := ⟨b1, o1 + k, none⟩) hb1).trans (a1.getD hlt1 hx)
        have Hx := Lib.hid hx
        clear hx a1 hgo
        by_cases hlt2 : k < ys.length
        · obtain ⟨b2, o2, rfl, hb2, a2⟩ := HP2.out (List.ne_nil_of_length_pos (by omega))
          obtain ⟨y, hy⟩ : ∃ y, ys.getD k 0 = y := ⟨_, rfl⟩
          have hyl : y < 10000 := by rw [← hy]; exact getD_lt (by omega) HY.out k
          have cy : wr.cell? ⟨b2, o2 + k, none⟩ = some (.int .i64 (y : Nat)) := (HB.out.cell (p := ⟨b2, o2 + k, none⟩) hb2).trans (a2.getD hlt2 hy)
          have Hy := Lib.hid hy
          clear hy a2
          have HS := Lib.hid (HST.out (x + c + y) (by first | (rw [Hx.out, Hy.out]; done) | (rw [Hx.out, Hy.out]; omega)))
          have e1 : ((c : Int) + x + y) % 10000 = (((x + c + y) % 10000 : Nat) : Int) := by omega
          have e2 : ((c : Int) + x + y) / 10000 = (((x + c + y) / 10000 : Nat) : Int) := by omega
          have hq1 : (x + c + y) / 10000 ≤ 1 := by omega
          have E1 := Lib.hid e1
          have E2 := Lib.hid e2
          have HQ : Hid (k + 1 ≤ 1000001) := by
            have h1 := HS.out
            obtain ⟨e1, e2⟩ := HXS.out
            rw [← e1, ← e2] at h1
            exact h1.bound (by rw [e1]; exact hl1) (by rw [e2]; exact hl2)
          have HMS : Hid ((x + c + y) / 10000 ≤ 1) := hq1
          clear e1 e2 hq1
          have hown : wr.ownsRow w.heap.size 3 1 (.slice po no co) k ((out).map fun x => Value.int .i64 (x : Nat)) := by
            have := HO.out; unfold Grow at this; rwa [HLEN.out] at this
          have hsz := HB.out.size
          have hownA := hown.alloc (.cells #[.int .i64 (((c : Int) + x + y) % 10000)] 3)
          have hm3 : w.heap.size ≤ (wr.alloc (.cells #[.int .i64 (((c : Int) + x + y) % 10000)] 3)).heap.size := by simp; omega
          go_wp2_with (at_builtin; go_loud (refine wpList_append_own _ rfl _ _ 142 rfl w.heap.size 3 i0 (.int .i64 0) 1 8 Tryz.underlying142 hi hz0 hz1 hz2 rfl (by decide) _ k _ rfl hownA ⟨wr.heap.size, 0, none⟩ 1 1 [.int .i64 (((c : Int) + x + y) % 10000)] rfl rfl (cell_one_new _ _ _) (by simp [Value.oneCell']) hm1 hm2 hm3 ?_); intro v' w1 hown1 hgrow1 _)
          have HG : Hid (Grow .i64 3 w1 w.heap.size v' (out ++ [(x + c + y) % 10000])) := Grow.snoc HLEN.out E1.out hown1
          have HB1 : Hid (Below w.heap.size w w1) := (HB.out.alloc hsz _).grown hgrow1 hm3 (fun z hz => (World.ownsRow.lt hownA z hz).1)
          clear hown hownA hown1 hgrow1
          go_roundw
          case rel => exact ⟨k + 1, _, _, by go_num, by rw [E2.out], HQ.out, HMS.out, HS, HG, by show _ = _; rw [List.length_append, HLEN.out]; rfl, HB1⟩
          case measure => rw [E2.out]; have := HMS.out; have := HQ.out; simp [intOf]; omega
        · have Hy : Hid (ys.getD k 0 = 0) := by show _ = _; simp [List.getD, hlt2]
          have HS := Lib.hid (HST.out (x + c) (by first | (rw [Hx.out, Hy.out]; done) | (rw [Hx.out, Hy.out]; omega)))
          have e1 : ((c : Int) + x) % 10000 = (((x + c) % 10000 : Nat) : Int) := by omega
          have e2 : ((c : Int) + x) / 10000 = (((x + c) / 10000 : Nat) : Int) := by omega
          have hq1 : (x + c) / 10000 ≤ 1 := by omega
          have E1 := Lib.hid e1
          have E2 := Lib.hid e2
          have HQ : Hid (k + 1 ≤ 1000001) := by
            have h1 := HS.out
            obtain ⟨e1, e2⟩ := HXS.out
            rw [← e1, ← e2] at h1
            exact h1.bound (by rw [e1]; exact hl1) (by rw [e2]; exact hl2)
          have HMS : Hid ((x + c) / 10000 ≤ 1) := hq1
          clear e1 e2 hq1
          have hown : wr.ownsRow w.heap.size 3 1 (.slice po no co) k ((out).map fun x => Value.int .i64 (x : Nat)) := by
            have := HO.out; unfold Grow at this; rwa [HLEN.out] at this
          have hsz := HB.out.size
          have hownA := hown.alloc (.cells #[.int .i64 (((c : Int) + x) % 10000)] 3)
          have hm3 : w.heap.size ≤ (wr.alloc (.cells #[.int .i64 (((c : Int) + x) % 10000)] 3)).heap.size := by simp; omega
          go_wp2_with (at_builtin; go_loud (refine wpList_append_own _ rfl _ _ 142 rfl w.heap.size 3 i0 (.int .i64 0) 1 8 Tryz.underlying142 hi hz0 hz1 hz2 rfl (by decide) _ k _ rfl hownA ⟨wr.heap.size, 0, none⟩ 1 1 [.int .i64 (((c : Int) + x) % 10000)] rfl rfl (cell_one_new _ _ _) (by simp [Value.oneCell']) hm1 hm2 hm3 ?_); intro v' w1 hown1 hgrow1 _)
          have HG : Hid (Grow .i64 3 w1 w.heap.size v' (out ++ [(x + c) % 10000])) := Grow.snoc HLEN.out E1.out hown1
          have HB1 : Hid (Below w.heap.size w w1) := (HB.out.alloc hsz _).grown hgrow1 hm3 (fun z hz => (World.ownsRow.lt hownA z hz).1)
          clear hown hownA hown1 hgrow1
          go_roundw
          case rel => exact ⟨k + 1, _, _, by go_num, by rw [E2.out], HQ.out, HMS.out, HS, HG, by show _ = _; rw [List.length_append, HLEN.out]; rfl, HB1⟩
          case measure => rw [E2.out]; have := HMS.out; have := HQ.out; simp [intOf]; omega
      · have Hx : Hid (xs.getD k 0 = 0) := by show _ = _; simp [List.getD, hlt1]
        by_cases hlt2 : k < ys.length
        · obtain ⟨b2, o2, rfl, hb2, a2⟩ := HP2.out (List.ne_nil_of_length_pos (by omega))
          obtain ⟨y, hy⟩ : ∃ y, ys.getD k 0 = y := ⟨_, rfl⟩
          have hyl : y < 10000 := by rw [← hy]; exact getD_lt (by omega) HY.out k
          have cy : wr.cell? ⟨b2, o2 + k, none⟩ = some (.int .i64 (y : Nat)) := (HB.out.cell (p := ⟨b2, o2 + k, none⟩) hb2).trans (a2.getD hlt2 hy)
          have Hy := Lib.hid hy
          clear hy a2 hgo
          have HS := Lib.hid (HST.out (c + y) (by first | (rw [Hx.out, Hy.out]; done) | (rw [Hx.out, Hy.out]; omega)))
          have e1 : ((c : Int) + y) % 10000 = (((c + y) % 10000 : Nat) : Int) := by omega
          have e2 : ((c : Int) + y) / 10000 = (((c + y) / 10000 : Nat) : Int) := by omega
          have hq1 : (c + y) / 10000 ≤ 1 := by omega
          have E1 := Lib.hid e1
          have E2 := Lib.hid e2
          have HQ : Hid (k + 1 ≤ 1000001) := by
            have h1 := HS.out
            obtain ⟨e1, e2⟩ := HXS.out
            rw [← e1, ← e2] at h1
            exact h1.bound (by rw [e1]; exact hl1) (by rw [e2]; exact hl2)
          have HMS : Hid ((c + y) / 10000 ≤ 1) := hq1
          clear e1 e2 hq1
          have hown : wr.ownsRow w.heap.size 3 1 (.slice po no co) k ((out).map fun x => Value.int .i64 (x : Nat)) := by
            have := HO.out; unfold Grow at this; rwa [HLEN.out] at this
          have hsz := HB.out.size
          have hownA := hown.alloc (.cells #[.int .i64 (((c : Int) + y) % 10000)] 3)
          have hm3 : w.heap.size ≤ (wr.alloc (.cells #[.int .i64 (((c : Int) + y) % 10000)] 3)).heap.size := by simp; omega
          go_wp2_with (at_builtin; go_loud (refine wpList_append_own _ rfl _ _ 142 rfl w.heap.size 3 i0 (.int .i64 0) 1 8 Tryz.underlying142 hi hz0 hz1 hz2 rfl (by decide) _ k _ rfl hownA ⟨wr.heap.size, 0, none⟩ 1 1 [.int .i64 (((c : Int) + y) % 10000)] rfl rfl (cell_one_new _ _ _) (by simp [Value.oneCell']) hm1 hm2 hm3 ?_); intro v' w1 hown1 hgrow1 _)
          have HG : Hid (Grow .i64 3 w1 w.heap.size v' (out ++ [(c + y) % 10000])) := Grow.snoc HLEN.out E1.out hown1
          have HB1 : Hid (Below w.heap.size w w1) := (HB.out.alloc hsz _).grown hgrow1 hm3 (fun z hz => (World.ownsRow.lt hownA z hz).1)
          clear hown hownA hown1 hgrow1
          go_roundw
          case rel => exact ⟨k + 1, _, _, by go_num, by rw [E2.out], HQ.out, HMS.out, HS, HG, by show _ = _; rw [List.length_append, HLEN.out]; rfl, HB1⟩
          case measure => rw [E2.out]; have := HMS.out; have := HQ.out; simp [intOf]; omega
        · have Hy : Hid (ys.getD k 0 = 0) := by show _ = _; simp [List.getD, hlt2]
          have hc0 : (0 : Int) < c := by omega
          clear hgo
          have HS := Lib.hid (HST.out (c) (by first | (rw [Hx.out, Hy.out]; done) | (rw [Hx.out, Hy.out]; omega)))
          have e1 : ((c : Int)) % 10000 = (((c) % 10000 : Nat) : Int) := by omega
          have e2 : ((c : Int)) / 10000 = (((c) / 10000 : Nat) : Int) := by omega
          have hq1 : (c) / 10000 ≤ 1 := by omega
          have E1 := Lib.hid e1
          have E2 := Lib.hid e2
          have HQ : Hid (k + 1 ≤ 1000001) := by
            have h1 := HS.out
            obtain ⟨e1, e2⟩ := HXS.out
            rw [← e1, ← e2] at h1
            exact h1.bound (by rw [e1]; exact hl1) (by rw [e2]; exact hl2)
          have HMS : Hid ((c) / 10000 ≤ 1) := hq1
          clear e1 e2 hq1
          have hown : wr.ownsRow w.heap.size 3 1 (.slice po no co) k ((out).map fun x => Value.int .i64 (x : Nat)) := by
            have := HO.out; unfold Grow at this; rwa [HLEN.out] at this
          have hsz := HB.out.size
          have hownA := hown.alloc (.cells #[.int .i64 (((c : Int)) % 10000)] 3)
          have hm3 : w.heap.size ≤ (wr.alloc (.cells #[.int .i64 (((c : Int)) % 10000)] 3)).heap.size := by simp; omega
          go_wp2_with (at_builtin; go_loud (refine wpList_append_own _ rfl _ _ 142 rfl w.heap.size 3 i0 (.int .i64 0) 1 8 Tryz.underlying142 hi hz0 hz1 hz2 rfl (by decide) _ k _ rfl hownA ⟨wr.heap.size, 0, none⟩ 1 1 [.int .i64 (((c : Int)) % 10000)] rfl rfl (cell_one_new _ _ _) (by simp [Value.oneCell']) hm1 hm2 hm3 ?_); intro v' w1 hown1 hgrow1 _)
          have HG : Hid (Grow .i64 3 w1 w.heap.size v' (out ++ [(c) % 10000])) := Grow.snoc HLEN.out E1.out hown1
          have HB1 : Hid (Below w.heap.size w w1) := (HB.out.alloc hsz _).grown hgrow1 hm3 (fun z hz => (World.ownsRow.lt hownA z hz).1)
          clear hown hownA hown1 hgrow1
          go_roundw
          case rel => exact ⟨k + 1, _, _, by go_num, by rw [E2.out], HQ.out, HMS.out, HS, HG, by show _ = _; rw [List.length_append, HLEN.out]; rfl, HB1⟩
          case measure => rw [E2.out]; have := HMS.out; have := HQ.out; simp [intOf]; omega
    · have hc0 : c = 0 := by omega
      subst hc0
      have hn1 : ¬ (k : Int) < xs.length := by omega
      have hn2 : ¬ (k : Int) < ys.length := by omega
      have HD : Hid (out = limbs 10000 (n + m)) := by
        have h1 := HI.out
        obtain ⟨e1, e2⟩ := HXS.out
        rw [← e1, ← e2] at h1
        exact h1.done (by omega) (by rw [e1]; omega) (by rw [e2]; omega)
      clear hgo
      go_wp2
      go_ret
      refine ⟨_, rfl, ?_, HB.out⟩
      have := HO.out.nums
      rw [HD.out] at this
      exact ⟨this, HO.out.pform⟩
end Go.Proofs.YtcncdepjbhnknaaGreatDoor
/- The document's CheckNat, Make, Of, Ratio, Int. -/
namespace Go.Proofs.YtcncdepjbhnknaaGreatDoor
open Go.RowKit Go.Shelf



set_option maxRecDepth 100000 in
set_option maxHeartbeats 4000000 in
theorem rmake_any (s t : ByteArray) (w : World) (hs : s.size ≤ 1000000) (ht : t.size ≤ 1000000) :
    Calls Tryz.prog 99 #[.string s, .string t] w (PartPost (Made s t) w) := by
  cases h1 : natOk s.data.toList
  · have H1 := Lib.hid h1
    obtain ⟨b2, hb2⟩ : ∃ b, natOk t.data.toList = b := ⟨_, rfl⟩
    have H2 := Lib.hid hb2
    clear h1 hb2
    go_enter Tryz.func99, Tryz.ntmps99
    go_wp2_with fail
    obtain ⟨w1, hw1⟩ : ∃ w1, w.alloc (.cells #[.string ⟨#[]⟩, .string ⟨#[]⟩] 46) = w1 := ⟨_, rfl⟩
    rw [hw1]
    have HX1 : Hid (Boxes w.heap.size [.cells #[.string ⟨#[]⟩, .string ⟨#[]⟩] 46] w1) := by rw [← hw1]; exact Boxes.one w _
    have HB1 : Hid (Below w.heap.size w w1) := by rw [← hw1]; exact (Below.refl _ w).alloc (Nat.le_refl _) _
    clear hw1
    refine (rnat_any s _ hs).mono ?_
    rintro e w2 ⟨rfl, rfl⟩
    rw [H1.out]
    go_wp2_with fail
    refine (rnat_any t _ ht).mono ?_
    rintro e w3 ⟨rfl, rfl⟩
    rw [H2.out]
    have r0 := HX1.out.cell 0 0 (b := w.heap.size) rfl rfl rfl
    have r1 := HX1.out.cell 0 1 (b := w.heap.size) rfl rfl rfl
    have f0 := HX1.out.free 0 0 (b := w.heap.size) rfl rfl
    have f1 := HX1.out.free 0 1 (b := w.heap.size) rfl rfl
    go_wp2
    have q := two_put_cells (HX1.out.block 0 (b := w.heap.size) rfl rfl) (.string ⟨#[]⟩) (.string ⟨#[]⟩)
    have HBQ := Lib.hid (two_put_below HB1.out (b := w.heap.size) (by omega) (.string ⟨#[]⟩) (.string ⟨#[]⟩))
    obtain ⟨w9, hw9⟩ : ∃ w9, (w1.setCell ⟨w.heap.size, 0, none⟩ (.string ⟨#[]⟩)).setCell ⟨w.heap.size, 1, none⟩ (.string ⟨#[]⟩) = w9 := ⟨_, rfl⟩
    rw [hw9] at q HBQ
    obtain ⟨q0, q1⟩ := q
    rw [hw9]
    clear r0 r1 f0 f1 hw9
    go_wp2
    refine bodyPost_ret (v := .tuple #[.agg #[.string ⟨#[]⟩, .string ⟨#[]⟩], .int .i64 2]) (by simp [results, Tryz.f99, go_sem, q0, q1]) rfl ⟨_, _, _, rfl, ?_, HBQ.out⟩
    exact .inl ⟨by rw [H1.out]; rfl, rfl, rfl, rfl⟩
  · have H1 := Lib.hid h1
    clear h1
    cases h2 : natOk t.data.toList
    · have H2 := Lib.hid h2
      clear h2
      go_enter Tryz.func99, Tryz.ntmps99
      go_wp2_with fail
      obtain ⟨w1, hw1⟩ : ∃ w1, w.alloc (.cells #[.string ⟨#[]⟩, .string ⟨#[]⟩] 46) = w1 := ⟨_, rfl⟩
      rw [hw1]
      have HX1 : Hid (Boxes w.heap.size [.cells #[.string ⟨#[]⟩, .string ⟨#[]⟩] 46] w1) := by rw [← hw1]; exact Boxes.one w _
      have HB1 : Hid (Below w.heap.size w w1) := by rw [← hw1]; exact (Below.refl _ w).alloc (Nat.le_refl _) _
      clear hw1
      refine (rnat_any s _ hs).mono ?_
      rintro e w2 ⟨rfl, rfl⟩
      rw [H1.out]
      go_wp2_with fail
      refine (rnat_any t _ ht).mono ?_
      rintro e w3 ⟨rfl, rfl⟩
      rw [H2.out]
      have r0 := HX1.out.cell 0 0 (b := w.heap.size) rfl rfl rfl
      have r1 := HX1.out.cell 0 1 (b := w.heap.size) rfl rfl rfl
      have f0 := HX1.out.free 0 0 (b := w.heap.size) rfl rfl
      have f1 := HX1.out.free 0 1 (b := w.heap.size) rfl rfl
      go_wp2
      have q := two_put_cells (HX1.out.block 0 (b := w.heap.size) rfl rfl) (.string ⟨#[]⟩) (.string ⟨#[]⟩)
      have HBQ := Lib.hid (two_put_below HB1.out (b := w.heap.size) (by omega) (.string ⟨#[]⟩) (.string ⟨#[]⟩))
      obtain ⟨w9, hw9⟩ : ∃ w9, (w1.setCell ⟨w.heap.size, 0, none⟩ (.string ⟨#[]⟩)).setCell ⟨w.heap.size, 1, none⟩ (.string ⟨#[]⟩) = w9 := ⟨_, rfl⟩
      rw [hw9] at q HBQ
      obtain ⟨q0, q1⟩ := q
      rw [hw9]
      clear r0 r1 f0 f1 hw9
      go_wp2
      refine bodyPost_ret (v := .tuple #[.agg #[.string ⟨#[]⟩, .string ⟨#[]⟩], .int .i64 2]) (by simp [results, Tryz.f99, go_sem, q0, q1]) rfl ⟨_, _, _, rfl, ?_, HBQ.out⟩
      exact .inl ⟨by rw [H2.out, Bool.and_false], rfl, rfl, rfl⟩
    · have HZ := Lib.hid (zero_iff h2)
      have H2 := Lib.hid h2
      clear h2
      have dl : t.toList = t.data.toList := ByteArray.toList_eq ..
      by_cases h0 : decVal t.data.toList = 0
      · have hz : (t.toList == [48]) = true := by
          rw [dl, HZ.out.2 h0]; rfl
        have H0 := Lib.hid h0
        clear h0 dl
        go_enter Tryz.func99, Tryz.ntmps99
        go_wp2_with fail
        obtain ⟨w1, hw1⟩ : ∃ w1, w.alloc (.cells #[.string ⟨#[]⟩, .string ⟨#[]⟩] 46) = w1 := ⟨_, rfl⟩
        rw [hw1]
        have HX1 : Hid (Boxes w.heap.size [.cells #[.string ⟨#[]⟩, .string ⟨#[]⟩] 46] w1) := by rw [← hw1]; exact Boxes.one w _
        have HB1 : Hid (Below w.heap.size w w1) := by rw [← hw1]; exact (Below.refl _ w).alloc (Nat.le_refl _) _
        clear hw1
        refine (rnat_any s _ hs).mono ?_
        rintro e w2 ⟨rfl, rfl⟩
        rw [H1.out]
        go_wp2_with fail
        refine (rnat_any t _ ht).mono ?_
        rintro e w3 ⟨rfl, rfl⟩
        rw [H2.out]
        have r0 := HX1.out.cell 0 0 (b := w.heap.size) rfl rfl rfl
        have r1 := HX1.out.cell 0 1 (b := w.heap.size) rfl rfl rfl
        have f0 := HX1.out.free 0 0 (b := w.heap.size) rfl rfl
        have f1 := HX1.out.free 0 1 (b := w.heap.size) rfl rfl
        go_wp2
        have q := two_put_cells (HX1.out.block 0 (b := w.heap.size) rfl rfl) (.string ⟨#[]⟩) (.string ⟨#[]⟩)
        have HBQ := Lib.hid (two_put_below HB1.out (b := w.heap.size) (by omega) (.string ⟨#[]⟩) (.string ⟨#[]⟩))
        obtain ⟨w9, hw9⟩ : ∃ w9, (w1.setCell ⟨w.heap.size, 0, none⟩ (.string ⟨#[]⟩)).setCell ⟨w.heap.size, 1, none⟩ (.string ⟨#[]⟩) = w9 := ⟨_, rfl⟩
        rw [hw9] at q HBQ
        obtain ⟨q0, q1⟩ := q
        rw [hw9]
        clear r0 r1 f0 f1 hw9
        go_wp2
        refine bodyPost_ret (v := .tuple #[.agg #[.string ⟨#[]⟩, .string ⟨#[]⟩], .int .i64 10]) (by simp [results, Tryz.f99, go_sem, q0, q1]) rfl ⟨_, _, _, rfl, ?_, HBQ.out⟩
        exact .inr (.inl ⟨by rw [H1.out, H2.out]; rfl, H0.out, rfl, rfl, rfl⟩)
      · have hz : (t.toList == [48]) = false := by
          rw [beq_eq_false_iff_ne, dl]
          intro hc
          refine h0 (HZ.out.1 ?_)
          rw [← str_eq t, hc]; rfl
        have H0 := Lib.hid h0
        obtain ⟨ds, ls⟩ := rnok H1.out
        obtain ⟨dt, lt⟩ := rnok H2.out
        have HDS := Lib.hid ds
        have HDT := Lib.hid dt
        have HL := Lib.hid (And.intro ls lt)
        clear h0 dl ds ls dt lt
        go_enter Tryz.func99, Tryz.ntmps99
        go_wp2_with fail
        obtain ⟨w1, hw1⟩ : ∃ w1, w.alloc (.cells #[.string ⟨#[]⟩, .string ⟨#[]⟩] 46) = w1 := ⟨_, rfl⟩
        rw [hw1]
        have HX1 : Hid (Boxes w.heap.size [.cells #[.string ⟨#[]⟩, .string ⟨#[]⟩] 46] w1) := by rw [← hw1]; exact Boxes.one w _
        have HB1 : Hid (Below w.heap.size w w1) := by rw [← hw1]; exact (Below.refl _ w).alloc (Nat.le_refl _) _
        clear hw1
        refine (rnat_any s _ hs).mono ?_
        rintro e w2 ⟨rfl, rfl⟩
        rw [H1.out]
        go_wp2_with fail
        refine (rnat_any t _ ht).mono ?_
        rintro e w3 ⟨rfl, rfl⟩
        rw [H2.out]
        go_wp2_with fail
        refine (rparts_any s hs HDS.out _).mono ?_
        rintro e w4 ⟨vn, rfl, hN, hb4⟩
        obtain ⟨pn, ln, cn, rfl⟩ := hN.form
        have HN4 := Lib.hid hN
        have HX4 := Lib.hid (HX1.out.below hb4 HX1.out.lt)
        have HB4 := Lib.hid (HB1.out.trans (hb4.mono HB1.out.size))
        clear hN hb4
        go_wp2_with fail
        refine (rparts_any t ht HDT.out _).mono ?_
        rintro e w5 ⟨vd, rfl, hD, hb5⟩
        obtain ⟨pd, ld, cd, rfl⟩ := hD.form
        have HD5 := Lib.hid hD
        have HN5 := Lib.hid (HN4.out.after hb5 (Nat.le_refl _))
        have HX5 := Lib.hid (HX4.out.below hb5 HX4.out.lt)
        have HB5 := Lib.hid (HB4.out.trans (hb5.mono HB4.out.size))
        clear hD hb5
        go_wp2_with fail
        refine (made_any HN5.out HD5.out (Nat.le_trans HL.out.1 (by decide)) (Nat.le_trans HL.out.2 (by decide)) (Nat.pos_of_ne_zero H0.out)).mono ?_
        rintro e w6 ⟨x, y, n, rfl, hR, hb6⟩
        have HR := Lib.hid hR
        have HX6 := Lib.hid (HX5.out.below hb6 HX5.out.lt)
        have HB6 := Lib.hid (HB5.out.trans (hb6.mono HB5.out.size))
        clear hR hb6
        have r0 := HX6.out.cell 0 0 (b := w.heap.size) rfl rfl rfl
        have r1 := HX6.out.cell 0 1 (b := w.heap.size) rfl rfl rfl
        have f0 := HX6.out.free 0 0 (b := w.heap.size) rfl rfl
        have f1 := HX6.out.free 0 1 (b := w.heap.size) rfl rfl
        go_wp2
        have q := two_put_cells (HX6.out.block 0 (b := w.heap.size) rfl rfl) (.string x) (.string y)
        have HBQ := Lib.hid (two_put_below HB6.out (b := w.heap.size) (by omega) (.string x) (.string y))
        obtain ⟨w9, hw9⟩ : ∃ w9, (w6.setCell ⟨w.heap.size, 0, none⟩ (.string x)).setCell ⟨w.heap.size, 1, none⟩ (.string y) = w9 := ⟨_, rfl⟩
        rw [hw9] at q HBQ
        obtain ⟨q0, q1⟩ := q
        rw [hw9]
        clear r0 r1 f0 f1 hw9
        go_wp2
        refine bodyPost_ret (v := .tuple #[.agg #[.string x, .string y], .int .i64 n]) (by simp [results, Tryz.f99, go_sem, q0, q1]) rfl ⟨_, _, _, rfl, ?_, HBQ.out⟩
        exact .inr (.inr ⟨by rw [H1.out, H2.out]; rfl, Nat.pos_of_ne_zero H0.out, HR.out⟩)

set_option maxRecDepth 100000 in
set_option maxHeartbeats 4000000 in
theorem rof_any (n : Int) (h0 : -9223372036854775808 ≤ n) (h1 : n ≤ 9223372036854775807) (w : World) :
    Calls Tryz.prog 98 #[.int .i64 n] w (OfPost n w) := by
  obtain ⟨i0, hi, hz0, hz1, hz2⟩ := info_parts info_int
  by_cases hn : n < 0
  · go_enter Tryz.func98, Tryz.ntmps98
    go_wp2
    go_ret2
    exact ⟨_, _, rfl, .inl ⟨hn, rfl, rfl⟩, Below.refl _ _⟩
  · obtain ⟨m, rfl⟩ : ∃ m : Nat, n = m := ⟨n.toNat, by omega⟩
    have hl6 : (limbs 10000 m).length ≤ 6 := limbs_length_le (by omega) (by omega)
    have HL6 := Lib.hid hl6
    clear h0 hl6
    go_enter Tryz.func98, Tryz.ntmps98
    go_wp2
    go_loopw [0, 4] (fun vn vo wr => ∃ (j k : Nat) (out : List Nat), vn = .int .i64 j ∧ j ≤ 9223372036854775807 ∧ k ≤ 6 ∧ Hid (limbs 10000 m = out ++ limbs 10000 j) ∧ Hid (Grow .i64 3 wr w.heap.size vo out) ∧ Hid (out.length = k) ∧ Hid (Below w.heap.size w wr)) (fun vn _ _ => (intOf vn).toNat)
    case atStart => exact ⟨m, 0, [], rfl, by omega, by omega, by show _ = _; simp, Grow.nil, rfl, Below.refl _ _⟩
    case round =>
      obtain ⟨j, k, out, rfl, hj, hk6, HI, HO, HLEN, HB⟩ := hrel
      obtain ⟨po, no, co, rfl⟩ : ∃ p n c, u4 = .slice p n c := by obtain ⟨q, c, h⟩ := HO.out.form; exact ⟨_, _, _, h⟩
      by_cases hgo : 0 < j
      · have hgo' : (0 : Int) < j := by omega
        have hm1 : k + 1 ≤ maxLen := by unfold maxLen; omega
        have hm2 : (k + 1) * 8 ≤ 140737488355328 := by omega
        have HI2 : Hid (limbs 10000 m = (out ++ [j % 10000]) ++ limbs 10000 (j / 10000)) := by
          show _ = _
          rw [HI.out, limbs_pos (by omega) hgo]; simp
        have HK7 : Hid (k + 1 ≤ 6) := by
          have h2 := congrArg List.length HI2.out
          have h3 := HL6.out
          have h4 := HLEN.out
          simp at h2
          show _ ≤ _
          omega
        have E1 : Hid ((j : Int) % 10000 = ((j % 10000 : Nat) : Int)) := by show _ = _; omega
        have E2 : Hid ((j : Int) / 10000 = ((j / 10000 : Nat) : Int)) := by show _ = _; omega
        have HJ : Hid (j / 10000 < j ∧ j / 10000 ≤ 9223372036854775807) := ⟨by omega, by omega⟩
        clear hgo
        have hown : wr.ownsRow w.heap.size 3 1 (.slice po no co) k ((out).map fun x => Value.int .i64 (x : Nat)) := by
          have := HO.out; unfold Grow at this; rwa [HLEN.out] at this
        have hsz := HB.out.size
        have hownA := hown.alloc (.cells #[.int .i64 ((j : Int) % 10000)] 3)
        have hm3 : w.heap.size ≤ (wr.alloc (.cells #[.int .i64 ((j : Int) % 10000)] 3)).heap.size := by simp; omega
        go_wp2_with (at_builtin; go_loud (refine wpList_append_own _ rfl _ _ 142 rfl w.heap.size 3 i0 (.int .i64 0) 1 8 Tryz.underlying142 hi hz0 hz1 hz2 rfl (by decide) _ k _ rfl hownA ⟨wr.heap.size, 0, none⟩ 1 1 [.int .i64 ((j : Int) % 10000)] rfl rfl (cell_one_new _ _ _) (by simp [Value.oneCell']) hm1 hm2 hm3 ?_); intro v' w1 hown1 hgrow1 _)
        have HG : Hid (Grow .i64 3 w1 w.heap.size v' (out ++ [j % 10000])) := Grow.snoc HLEN.out E1.out hown1
        have HB1 : Hid (Below w.heap.size w w1) := (HB.out.alloc hsz _).grown hgrow1 hm3 (fun z hz => (World.ownsRow.lt hownA z hz).1)
        clear hown hownA hown1 hgrow1
        go_roundw
        case rel => exact ⟨j / 10000, k + 1, _, by rw [E2.out], HJ.out.2, HK7.out, HI2, HG, by show _ = _; rw [List.length_append, HLEN.out]; rfl, HB1⟩
        case measure => rw [E2.out]; have := HJ.out; simp [intOf]; omega
      · obtain rfl : j = 0 := by omega
        have HE : Hid (out = limbs 10000 m) := by show _ = _; rw [HI.out, limbs_zero]; simp
        have HP : Hid (PNum wr (.slice po no co) m) := by
          have := HO.out.nums
          rw [HE.out] at this
          exact ⟨this, HO.out.pform⟩
        clear hgo
        go_wp2_with fail
        refine (rnatOf_any HP.out (Nat.le_trans HL6.out (by decide))).mono ?_
        rintro e w5 ⟨rfl, hb5⟩
        have HB5 := Lib.hid (HB.out.trans (hb5.mono HB.out.size))
        obtain ⟨s, hs⟩ : ∃ s, str (Lib.decDigits m) = s := ⟨_, rfl⟩
        rw [hs]
        have HS := Lib.hid hs
        clear hb5 hs
        go_wp2
        go_ret2
        exact ⟨_, _, rfl, .inr ⟨by omega, by rw [← HS.out]; rfl, rfl⟩, HB5.out⟩
end Go.Proofs.YtcncdepjbhnknaaGreatDoor
/- The document's Ratio, Int. -/
namespace Go.Proofs.YtcncdepjbhnknaaGreatDoor
open Go.RowKit Go.Shelf



set_option maxRecDepth 100000 in
set_option maxHeartbeats 4000000 in
theorem rratio_any (a b : Int) (ha0 : -9223372036854775808 ≤ a) (ha1 : a ≤ 9223372036854775807) (hb0 : -9223372036854775808 ≤ b) (hb1 : b ≤ 9223372036854775807) (w : World) :
    Calls Tryz.prog 52 #[.int .i64 a, .int .i64 b] w (PartPost (RatioR a b) w) := by
  by_cases g1 : a < 0
  · skip
    have HB1 : Hid (Below w.heap.size w (w.alloc (.cells #[.string ⟨#[]⟩, .string ⟨#[]⟩] 46))) := (Below.refl _ w).alloc (Nat.le_refl _) _
    have c0 : (w.alloc (.cells #[.string ⟨#[]⟩, .string ⟨#[]⟩] 46)).cell? ⟨w.heap.size, 0, none⟩ = some (.string ⟨#[]⟩) := cell_new _ _ _ 0 rfl
    have c1 : (w.alloc (.cells #[.string ⟨#[]⟩, .string ⟨#[]⟩] 46)).cell? ⟨w.heap.size, 1, none⟩ = some (.string ⟨#[]⟩) := cell_new _ _ _ 1 rfl
    go_enter Tryz.func52, Tryz.ntmps52
    go_wp2
    refine bodyPost_ret (v := .tuple #[.agg #[.string ⟨#[]⟩, .string ⟨#[]⟩], .int .i64 11]) (by simp [results, Tryz.f52, go_sem, c0, c1]) rfl ⟨_, _, _, rfl, ?_, HB1.out⟩
    exact .inl ⟨.inl g1, rfl, rfl, rfl⟩
  by_cases g2 : b < 0
  · skip
    have HB1 : Hid (Below w.heap.size w (w.alloc (.cells #[.string ⟨#[]⟩, .string ⟨#[]⟩] 46))) := (Below.refl _ w).alloc (Nat.le_refl _) _
    have c0 : (w.alloc (.cells #[.string ⟨#[]⟩, .string ⟨#[]⟩] 46)).cell? ⟨w.heap.size, 0, none⟩ = some (.string ⟨#[]⟩) := cell_new _ _ _ 0 rfl
    have c1 : (w.alloc (.cells #[.string ⟨#[]⟩, .string ⟨#[]⟩] 46)).cell? ⟨w.heap.size, 1, none⟩ = some (.string ⟨#[]⟩) := cell_new _ _ _ 1 rfl
    go_enter Tryz.func52, Tryz.ntmps52
    go_wp2
    refine bodyPost_ret (v := .tuple #[.agg #[.string ⟨#[]⟩, .string ⟨#[]⟩], .int .i64 11]) (by simp [results, Tryz.f52, go_sem, c0, c1]) rfl ⟨_, _, _, rfl, ?_, HB1.out⟩
    exact .inl ⟨.inr g2, rfl, rfl, rfl⟩
  by_cases g3 : b = 0
  · subst g3
    have HB1 : Hid (Below w.heap.size w (w.alloc (.cells #[.string ⟨#[]⟩, .string ⟨#[]⟩] 46))) := (Below.refl _ w).alloc (Nat.le_refl _) _
    have c0 : (w.alloc (.cells #[.string ⟨#[]⟩, .string ⟨#[]⟩] 46)).cell? ⟨w.heap.size, 0, none⟩ = some (.string ⟨#[]⟩) := cell_new _ _ _ 0 rfl
    have c1 : (w.alloc (.cells #[.string ⟨#[]⟩, .string ⟨#[]⟩] 46)).cell? ⟨w.heap.size, 1, none⟩ = some (.string ⟨#[]⟩) := cell_new _ _ _ 1 rfl
    go_enter Tryz.func52, Tryz.ntmps52
    go_wp2
    refine bodyPost_ret (v := .tuple #[.agg #[.string ⟨#[]⟩, .string ⟨#[]⟩], .int .i64 10]) (by simp [results, Tryz.f52, go_sem, c0, c1]) rfl ⟨_, _, _, rfl, ?_, HB1.out⟩
    exact .inr (.inl ⟨by omega, rfl, rfl, rfl, rfl⟩)
  have g4 : (b == 0) = false := by rw [beq_eq_false_iff_ne]; exact g3
  have HA := Lib.hid (rof_any a ha0 ha1)
  have HBB := Lib.hid (rof_any b hb0 hb1)
  have HG : Hid (0 ≤ a ∧ 0 ≤ b ∧ a ≤ 9223372036854775807 ∧ b ≤ 9223372036854775807) := ⟨by omega, by omega, ha1, hb1⟩
  go_enter Tryz.func52, Tryz.ntmps52
  go_wp2_with fail
  obtain ⟨w1, hw1⟩ : ∃ w1, w.alloc (.cells #[.string ⟨#[]⟩, .string ⟨#[]⟩] 46) = w1 := ⟨_, rfl⟩
  rw [hw1]
  have HX1 : Hid (Boxes w.heap.size [.cells #[.string ⟨#[]⟩, .string ⟨#[]⟩] 46] w1) := by rw [← hw1]; exact Boxes.one w _
  have HB1 : Hid (Below w.heap.size w w1) := by rw [← hw1]; exact (Below.refl _ w).alloc (Nat.le_refl _) _
  clear hw1
  refine (HA.out _).mono ?_
  rintro e w2 ⟨s, r1, rfl, hR1, hb2⟩
  obtain ⟨hs, rfl⟩ : s = str (Lib.decDigits a.toNat) ∧ r1 = 0 := by
    rcases hR1 with ⟨h, _⟩ | ⟨_, h1, h2⟩
    · omega
    · exact ⟨h1, h2⟩
  have HX2 := Lib.hid (HX1.out.below hb2 HX1.out.lt)
  have HB2 := Lib.hid (HB1.out.trans (hb2.mono HB1.out.size))
  have HS := Lib.hid hs
  clear hb2 hR1 hs
  go_wp2_with fail
  refine (HBB.out _).mono ?_
  rintro e w3 ⟨t, r2, rfl, hR2, hb3⟩
  obtain ⟨ht, rfl⟩ : t = str (Lib.decDigits b.toNat) ∧ r2 = 0 := by
    rcases hR2 with ⟨h, _⟩ | ⟨_, h1, h2⟩
    · omega
    · exact ⟨h1, h2⟩
  have HX3 := Lib.hid (HX2.out.below hb3 HX2.out.lt)
  have HB3 := Lib.hid (HB2.out.trans (hb3.mono HB2.out.size))
  have HT := Lib.hid ht
  clear hb3 hR2 ht
  have hss : s.size ≤ 1000000 := by rw [HS.out, str_size]; have := i64_pow ha1; omega
  have hts : t.size ≤ 1000000 := by rw [HT.out, str_size]; have := i64_pow hb1; omega
  have HM := Lib.hid (rmake_any s t w3 hss hts)
  clear hss hts
  go_wp2_with fail
  refine HM.out.mono ?_
  rintro e w6 ⟨x, y, n, rfl, hR, hb6⟩
  have HR := Lib.hid (ratio_made HG.out.1 HG.out.2.1 HG.out.2.2.1 HG.out.2.2.2 HS.out HT.out hR)
  have HX6 := Lib.hid (HX3.out.below hb6 HX3.out.lt)
  have HB6 := Lib.hid (HB3.out.trans (hb6.mono HB3.out.size))
  clear hR hb6
  have r0 := HX6.out.cell 0 0 (b := w.heap.size) rfl rfl rfl
  have r1 := HX6.out.cell 0 1 (b := w.heap.size) rfl rfl rfl
  have f0 := HX6.out.free 0 0 (b := w.heap.size) rfl rfl
  have f1 := HX6.out.free 0 1 (b := w.heap.size) rfl rfl
  go_wp2
  have q := two_put_cells (HX6.out.block 0 (b := w.heap.size) rfl rfl) (.string x) (.string y)
  have HBQ := Lib.hid (two_put_below HB6.out (b := w.heap.size) (by omega) (.string x) (.string y))
  obtain ⟨w9, hw9⟩ : ∃ w9, (w6.setCell ⟨w.heap.size, 0, none⟩ (.string x)).setCell ⟨w.heap.size, 1, none⟩ (.string y) = w9 := ⟨_, rfl⟩
  rw [hw9] at q HBQ
  obtain ⟨q0, q1⟩ := q
  rw [hw9]
  clear r0 r1 f0 f1 hw9
  go_wp2
  refine bodyPost_ret (v := .tuple #[.agg #[.string x, .string y], .int .i64 n]) (by simp [results, Tryz.f52, go_sem, q0, q1]) rfl ⟨_, _, _, rfl, ?_, HBQ.out⟩
  exact HR.out

/-- What Int answers: the integer, the error. -/
def intA (s : ByteArray) : Int := if natOk s.data.toList = true ∧ decVal s.data.toList ≤ 4611686018427387904 then (decVal s.data.toList : Nat) else 0
def intE (s : ByteArray) : Int := if natOk s.data.toList = true then (if decVal s.data.toList ≤ 4611686018427387904 then 0 else 4) else 2
theorem int_no {s : ByteArray} (h : natOk s.data.toList = false) : intA s = 0 ∧ intE s = 2 := by unfold intA intE; rw [h]; exact ⟨rfl, rfl⟩
theorem int_far {s : ByteArray} (h : natOk s.data.toList = true) (h2 : 4611686018427387904 < decVal s.data.toList) : intA s = 0 ∧ intE s = 4 := by
  unfold intA intE
  rw [if_neg (by rw [h]; omega), if_pos h, if_neg (by omega)]; exact ⟨rfl, rfl⟩
theorem int_yes {s : ByteArray} (h : natOk s.data.toList = true) (h2 : decVal s.data.toList ≤ 4611686018427387904) : intA s = (decVal s.data.toList : Nat) ∧ intE s = 0 := by
  unfold intA intE
  rw [if_pos ⟨h, h2⟩, if_pos h, if_pos h2]; exact ⟨rfl, rfl⟩
def IntOf (s : ByteArray) (w : World) (e : Ending) (w' : World) : Prop := e = .returned (.tuple #[.int .i64 (intA s), .int .i64 (intE s)]) ∧ Below w.heap.size w w'
theorem val_drop_le (B : Nat) (hB : 0 < B) : ∀ (l : List Nat) (k : Nat), val B (l.drop k) ≤ val B l
  | l, 0 => by simp
  | [], k + 1 => by simp
  | x :: l, k + 1 => by
    have h1 := val_drop_le B hB l k
    have h2 : val B l * 1 ≤ val B l * B := Nat.mul_le_mul_left _ hB
    rw [List.drop_succ_cons, val_cons, Nat.mul_comm]
    omega
theorem most_val : decVal (⟨#[52, 54, 49, 49, 54, 56, 54, 48, 49, 56, 52, 50, 55, 51, 56, 55, 57, 48, 52]⟩ : ByteArray).data.toList = 4611686018427387904 := by decide +kernel
theorem most_dig : ∀ c ∈ (⟨#[52, 54, 49, 49, 54, 56, 54, 48, 49, 56, 52, 50, 55, 51, 56, 55, 57, 48, 52]⟩ : ByteArray).data.toList, isDig c = true := by decide +kernel

end Go.Proofs.YtcncdepjbhnknaaGreatDoor
