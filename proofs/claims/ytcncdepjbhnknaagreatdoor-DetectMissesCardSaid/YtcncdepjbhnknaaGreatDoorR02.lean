/- The parts RMinus, RTimes, ROver, RNat, RMade of a proof, put together by program (merge6.py). -/
import Derived.Test.YtcncdepjbhnknaaGreatDoorR01
import Derived.Test.YtcncdepjbhnknaaGreatDoorH03
import Derived.Test.YtcncdepjbhnknaaGreatDoorH02
import Derived.Test.YtcncdepjbhnknaaGreatDoorH12
import Derived.Deep.RegionHeld3
import Derived.Deep.DrawnRows
set_option linter.unusedVariables false
set_option linter.unusedSimpArgs false
namespace Go.Proofs.YtcncdepjbhnknaaGreatDoor
open Go.RowKit
set_option maxRecDepth 100000 in
set_option maxHeartbeats 4000000 in
theorem rminus_any {v1 v2 : Value} {n m : Nat} {w : World} (h1 : PNum w v1 n) (h2 : PNum w v2 m) (hmn : m ≤ n) (hl1 : (limbs 10000 n).length ≤ 1000000) :
    Calls Tryz.prog 122 #[v1, v2] w (PPost w (n - m)) := by
  obtain ⟨i0, hi, hz0, hz1, hz2⟩ := info_parts info_int
  have hlm := limbs_length_mono (B := 10000) (by omega) hmn
  obtain ⟨p1, c1, rfl, _, _, hp1⟩ := h1.1
  obtain ⟨p2, c2, rfl, _, _, hp2⟩ := h2.1
  obtain ⟨xs, hxs⟩ : ∃ xs, limbs 10000 n = xs := ⟨_, rfl⟩
  obtain ⟨ys, hys⟩ : ∃ ys, limbs 10000 m = ys := ⟨_, rfl⟩
  rw [hxs] at hl1 hp1 hlm ⊢
  rw [hys] at hp2 hlm ⊢
  have HX : Hid (∀ x ∈ xs, x < 10000) := by rw [← hxs]; exact limbs_lt (by omega) n
  have HY : Hid (∀ x ∈ ys, x < 10000) := by rw [← hys]; exact limbs_lt (by omega) m
  have HV : Hid (val 10000 xs = n ∧ val 10000 ys = m) := by rw [← hxs, ← hys]; exact ⟨val_limbs (by omega) n, val_limbs (by omega) m⟩
  have HP1 := Lib.hid hp1
  have HP2 := Lib.hid hp2
  clear hxs hys hp1 hp2
  go_enter Tryz.func122, Tryz.ntmps122
  go_wp2
  go_loopw [5, 6, 7] (fun vo vb vi wr => ∃ (k b : Nat) (out : List Nat), vi = .int .i64 k ∧ vb = .int .i64 b ∧ k ≤ xs.length ∧ b ≤ 1 ∧ Hid (MinusInv 10000 xs ys k out b) ∧ Hid (Grow .i64 3 wr w.heap.size vo out) ∧ Hid (out.length = k) ∧ Hid (Below w.heap.size w wr)) (fun _ _ vi _ => xs.length - (intOf vi).toNat)
  case atStart => exact ⟨0, 0, [], rfl, rfl, by omega, by omega, MinusInv.start _ _ _, Grow.nil, rfl, Below.refl _ _⟩
  case round =>
    obtain ⟨k, b, out, rfl, rfl, hk, hb1, HI, HO, HLEN, HB⟩ := hrel
    obtain ⟨po, no, co, rfl⟩ : ∃ p n c, u5 = .slice p n c := by obtain ⟨q, c, h⟩ := HO.out.form; exact ⟨_, _, _, h⟩
    by_cases hlt1 : k < xs.length
    · have hm1 : k + 1 ≤ maxLen := by unfold maxLen; omega
      have hm2 : (k + 1) * 8 ≤ 140737488355328 := by omega
      obtain ⟨b1, o1, rfl, hb1, a1⟩ := HP1.out (List.ne_nil_of_length_pos (by omega))
      obtain ⟨x, hx⟩ : ∃ x, xs.getD k 0 = x := ⟨_, rfl⟩
      have hxl : x < 10000 := by rw [← hx]; exact getD_lt (by omega) HX.out k
      have cx : wr.cell? ⟨b1, o1 + k, none⟩ = some (.int .i64 (x : Nat)) := (HB.out.cell (p := ⟨b1, o1 + k, none⟩) hb1).trans (a1.getD hlt1 hx)
      have Hx := Lib.hid hx
      clear hx a1
      by_cases hlt2 : k < ys.length
      · obtain ⟨b2, o2, rfl, hb2, a2⟩ := HP2.out (List.ne_nil_of_length_pos (by omega))
        obtain ⟨y, hy⟩ : ∃ y, ys.getD k 0 = y := ⟨_, rfl⟩
        have hyl : y < 10000 := by rw [← hy]; exact getD_lt (by omega) HY.out k
        have cy : wr.cell? ⟨b2, o2 + k, none⟩ = some (.int .i64 (y : Nat)) := (HB.out.cell (p := ⟨b2, o2 + k, none⟩) hb2).trans (a2.getD hlt2 hy)
        have Hy := Lib.hid hy
        clear hy a2
        by_cases hneg : x < b + y
        · have hn : ((x : Int) - b - y) < 0 := by omega
          have E1 : Hid (((x : Int) - b - y) + 10000 = (x + 10000 - (b + y) : Nat)) := by show _ = _; omega
          have HS := HI.out.step_borrow (by omega) HY.out (less := b + y) (by have h := Hy.out; omega) (by rw [Hx.out]; exact hneg)
          rw [Hx.out] at HS
          have HS := Lib.hid HS
          clear hneg
          have hown : wr.ownsRow w.heap.size 3 1 (.slice po no co) k ((out).map fun x => Value.int .i64 (x : Nat)) := by
            have := HO.out; unfold Grow at this; rwa [HLEN.out] at this
          have hsz := HB.out.size
          have hownA := hown.alloc (.cells #[.int .i64 (((x : Int) - b - y) + 10000)] 3)
          have hm3 : w.heap.size ≤ (wr.alloc (.cells #[.int .i64 (((x : Int) - b - y) + 10000)] 3)).heap.size := by simp; omega
          go_wp2_with (at_builtin; go_loud (refine wpList_append_own _ rfl _ _ 142 rfl w.heap.size 3 i0 (.int .i64 0) 1 8 Tryz.underlying142 hi hz0 hz1 hz2 rfl (by decide) _ k _ rfl hownA ⟨wr.heap.size, 0, none⟩ 1 1 [.int .i64 (((x : Int) - b - y) + 10000)] rfl rfl (cell_one_new _ _ _) (by simp [Value.oneCell']) hm1 hm2 hm3 ?_); intro v' w1 hown1 hgrow1 _)
          have HG : Hid (Grow .i64 3 w1 w.heap.size v' (out ++ [x + 10000 - (b + y)])) := Grow.snoc HLEN.out E1.out hown1
          have HB1 : Hid (Below w.heap.size w w1) := (HB.out.alloc hsz _).grown hgrow1 hm3 (fun z hz => (World.ownsRow.lt hownA z hz).1)
          clear hown hownA hown1 hgrow1
          go_roundw
          case rel => exact ⟨k + 1, 1, _, by go_num, rfl, by omega, by omega, HS, HG, by show _ = _; rw [List.length_append, HLEN.out]; rfl, HB1⟩
          case measure => simp [intOf]; omega
        · have hn : ¬ ((x : Int) - b - y) < 0 := by omega
          have E1 : Hid (((x : Int) - b - y) = (x - (b + y) : Nat)) := by show _ = _; omega
          have HS := HI.out.step_plain HX.out (by omega) (less := b + y) (by have h := Hy.out; omega) (by rw [Hx.out]; omega)
          rw [Hx.out] at HS
          have HS := Lib.hid HS
          clear hneg
          have hown : wr.ownsRow w.heap.size 3 1 (.slice po no co) k ((out).map fun x => Value.int .i64 (x : Nat)) := by
            have := HO.out; unfold Grow at this; rwa [HLEN.out] at this
          have hsz := HB.out.size
          have hownA := hown.alloc (.cells #[.int .i64 ((x : Int) - b - y)] 3)
          have hm3 : w.heap.size ≤ (wr.alloc (.cells #[.int .i64 ((x : Int) - b - y)] 3)).heap.size := by simp; omega
          go_wp2_with (at_builtin; go_loud (refine wpList_append_own _ rfl _ _ 142 rfl w.heap.size 3 i0 (.int .i64 0) 1 8 Tryz.underlying142 hi hz0 hz1 hz2 rfl (by decide) _ k _ rfl hownA ⟨wr.heap.size, 0, none⟩ 1 1 [.int .i64 ((x : Int) - b - y)] rfl rfl (cell_one_new _ _ _) (by simp [Value.oneCell']) hm1 hm2 hm3 ?_); intro v' w1 hown1 hgrow1 _)
          have HG : Hid (Grow .i64 3 w1 w.heap.size v' (out ++ [x - (b + y)])) := Grow.snoc HLEN.out E1.out hown1
          have HB1 : Hid (Below w.heap.size w w1) := (HB.out.alloc hsz _).grown hgrow1 hm3 (fun z hz => (World.ownsRow.lt hownA z hz).1)
          clear hown hownA hown1 hgrow1
          go_roundw
          case rel => exact ⟨k + 1, 0, _, by go_num, rfl, by omega, by omega, HS, HG, by show _ = _; rw [List.length_append, HLEN.out]; rfl, HB1⟩
          case measure => simp [intOf]; omega
      · have Hy : Hid (ys.getD k 0 = 0) := by show _ = _; simp [List.getD, hlt2]
        by_cases hneg : x < b
        · have hn : ((x : Int) - b) < 0 := by omega
          have E1 : Hid (((x : Int) - b) + 10000 = (x + 10000 - (b) : Nat)) := by show _ = _; omega
          have HS := HI.out.step_borrow (by omega) HY.out (less := b) (by have h := Hy.out; omega) (by rw [Hx.out]; exact hneg)
          rw [Hx.out] at HS
          have HS := Lib.hid HS
          clear hneg
          have hown : wr.ownsRow w.heap.size 3 1 (.slice po no co) k ((out).map fun x => Value.int .i64 (x : Nat)) := by
            have := HO.out; unfold Grow at this; rwa [HLEN.out] at this
          have hsz := HB.out.size
          have hownA := hown.alloc (.cells #[.int .i64 (((x : Int) - b) + 10000)] 3)
          have hm3 : w.heap.size ≤ (wr.alloc (.cells #[.int .i64 (((x : Int) - b) + 10000)] 3)).heap.size := by simp; omega
          go_wp2_with (at_builtin; go_loud (refine wpList_append_own _ rfl _ _ 142 rfl w.heap.size 3 i0 (.int .i64 0) 1 8 Tryz.underlying142 hi hz0 hz1 hz2 rfl (by decide) _ k _ rfl hownA ⟨wr.heap.size, 0, none⟩ 1 1 [.int .i64 (((x : Int) - b) + 10000)] rfl rfl (cell_one_new _ _ _) (by simp [Value.oneCell']) hm1 hm2 hm3 ?_); intro v' w1 hown1 hgrow1 _)
          have HG : Hid (Grow .i64 3 w1 w.heap.size v' (out ++ [x + 10000 - (b)])) := Grow.snoc HLEN.out E1.out hown1
          have HB1 : Hid (Below w.heap.size w w1) := (HB.out.alloc hsz _).grown hgrow1 hm3 (fun z hz => (World.ownsRow.lt hownA z hz).1)
          clear hown hownA hown1 hgrow1
          go_roundw
          case rel => exact ⟨k + 1, 1, _, by go_num, rfl, by omega, by omega, HS, HG, by show _ = _; rw [List.length_append, HLEN.out]; rfl, HB1⟩
          case measure => simp [intOf]; omega
        · have hn : ¬ ((x : Int) - b) < 0 := by omega
          have E1 : Hid (((x : Int) - b) = (x - (b) : Nat)) := by show _ = _; omega
          have HS := HI.out.step_plain HX.out (by omega) (less := b) (by have h := Hy.out; omega) (by rw [Hx.out]; omega)
          rw [Hx.out] at HS
          have HS := Lib.hid HS
          clear hneg
          have hown : wr.ownsRow w.heap.size 3 1 (.slice po no co) k ((out).map fun x => Value.int .i64 (x : Nat)) := by
            have := HO.out; unfold Grow at this; rwa [HLEN.out] at this
          have hsz := HB.out.size
          have hownA := hown.alloc (.cells #[.int .i64 ((x : Int) - b)] 3)
          have hm3 : w.heap.size ≤ (wr.alloc (.cells #[.int .i64 ((x : Int) - b)] 3)).heap.size := by simp; omega
          go_wp2_with (at_builtin; go_loud (refine wpList_append_own _ rfl _ _ 142 rfl w.heap.size 3 i0 (.int .i64 0) 1 8 Tryz.underlying142 hi hz0 hz1 hz2 rfl (by decide) _ k _ rfl hownA ⟨wr.heap.size, 0, none⟩ 1 1 [.int .i64 ((x : Int) - b)] rfl rfl (cell_one_new _ _ _) (by simp [Value.oneCell']) hm1 hm2 hm3 ?_); intro v' w1 hown1 hgrow1 _)
          have HG : Hid (Grow .i64 3 w1 w.heap.size v' (out ++ [x - (b)])) := Grow.snoc HLEN.out E1.out hown1
          have HB1 : Hid (Below w.heap.size w w1) := (HB.out.alloc hsz _).grown hgrow1 hm3 (fun z hz => (World.ownsRow.lt hownA z hz).1)
          clear hown hownA hown1 hgrow1
          go_roundw
          case rel => exact ⟨k + 1, 0, _, by go_num, rfl, by omega, by omega, HS, HG, by show _ = _; rw [List.length_append, HLEN.out]; rfl, HB1⟩
          case measure => simp [intOf]; omega
    · obtain rfl : k = xs.length := by omega
      have HL : Hid (∀ z ∈ out, z < 10000) := HI.out.lt
      have HD : Hid (val 10000 out = n - m) := by show _ = _; rw [HI.out.done hlm (by rw [HV.out.1, HV.out.2]; exact hmn), HV.out.1, HV.out.2]
      have ht := rtrim_any HO.out.nums HO.out.pform HL.out _ HD.out
      go_wp2_with fail
      refine ht.mono ?_
      rintro e' w' ⟨v', rfl, rfl, hv, _⟩
      obtain ⟨p', m', c', rfl⟩ := hv.form
      have HVV := Lib.hid hv
      clear ht hv
      go_wp2
      go_ret
      exact ⟨_, rfl, HVV.out, HB.out⟩
end Go.Proofs.YtcncdepjbhnknaaGreatDoor
namespace Go.Proofs.YtcncdepjbhnknaaGreatDoor
open Go.RowKit

set_option maxRecDepth 100000 in
set_option maxHeartbeats 4000000 in
theorem rtimes_any {v1 v2 : Value} {n m : Nat} {w : World} (h1 : PNum w v1 n) (h2 : PNum w v2 m) (hl1 : (limbs 10000 n).length ≤ 1000000) (hl2 : (limbs 10000 m).length ≤ 1000000) :
    Calls Tryz.prog 118 #[v1, v2] w (PPost w (n * m)) := by
  obtain ⟨p1, c1, rfl, _, _, hp1⟩ := h1.1
  obtain ⟨p2, c2, rfl, _, _, hp2⟩ := h2.1
  obtain ⟨xs, hxs⟩ : ∃ xs, limbs 10000 n = xs := ⟨_, rfl⟩
  obtain ⟨ys, hys⟩ : ∃ ys, limbs 10000 m = ys := ⟨_, rfl⟩
  rw [hxs] at hl1 hp1 ⊢
  rw [hys] at hl2 hp2 ⊢
  have HX : Hid (∀ x ∈ xs, x < 10000) := by rw [← hxs]; exact limbs_lt (by omega) n
  have HY : Hid (∀ x ∈ ys, x < 10000) := by rw [← hys]; exact limbs_lt (by omega) m
  have HV : Hid (val 10000 xs = n ∧ val 10000 ys = m) := by rw [← hxs, ← hys]; exact ⟨val_limbs (by omega) n, val_limbs (by omega) m⟩
  have HP1 := Lib.hid hp1
  have HP2 := Lib.hid hp2
  clear hxs hys hp1 hp2
  obtain ⟨i0, hi, hz0, hz1, hz2⟩ := info_parts info_int
  go_enter Tryz.func118, Tryz.ntmps118
  go_wp2_with (at_make; refine wpList_make_full _ rfl _ _ 142 rfl w.heap.size 3 i0 (.int .i64 0) 1 Tryz.underlying142 hi hz0 hz1 _ _ _ _ (xs.length + ys.length) rfl rfl (by omega) (by omega) ?b2 ?b3 (Nat.le_refl _) ?_)
  case b2 => rw [hz2]; omega
  case b3 => unfold maxLen; omega
  intro w0 hown0 hgrow0
  have HB0 := Lib.hid ((Below.refl w.heap.size w).grown hgrow0 (Nat.le_refl _) (fun k h => by cases h))
  have HR0 := Lib.hid (Row.full (k := .i64) hown0)
  clear hgrow0 hown0
  go_wp2
  go_loopw [6] (fun i wr => ∃ (k : Nat) (o : List Nat), k ≤ xs.length ∧ i = .int .i64 k ∧ Hid (Row .i64 3 wr w.heap.size w.heap.size (xs.length + ys.length) o) ∧
      Hid (RowsInv 10000 (xs.length + ys.length) xs ys k o) ∧ Hid (Below w.heap.size w wr)) (fun i _ => xs.length - (intOf i).toNat)
  case atStart => exact ⟨0, _, Nat.zero_le _, rfl, HR0, RowsInv.start (by omega) _ _ _, HB0⟩
  case round =>
    obtain ⟨i, o, hk, rfl, HR, HI, HB⟩ := hrel
    by_cases hlt : i < xs.length
    · obtain ⟨b1, off1, rfl, hb1, ha1⟩ := HP1.out (List.ne_nil_of_length_pos (by omega))
      obtain ⟨x, hx⟩ : ∃ x, xs.getD i 0 = x := ⟨_, rfl⟩
      have hxl : x < 10000 := by rw [← hx]; exact getD_lt (by omega) HX.out i
      have Hx := Lib.hid hx
      have HT := Lib.hid (HI.out.inner (by omega) x)
      have HA1 := Lib.hid ha1
      clear hx ha1 HI
      go_wp2
      obtain ⟨wo, hwo⟩ : ∃ wo : World, wo = wr := ⟨_, rfl⟩
      go_loopw [7, 8] (fun c kk wr => ∃ (k : Nat) (o : List Nat) (cr : Nat), k ≤ ys.length ∧ kk = .int .i64 k ∧ c = .int .i64 cr ∧ Hid (Row .i64 3 wr w.heap.size w.heap.size (xs.length + ys.length) o) ∧
          Hid (TimesInv 10000 (xs.length + ys.length) i (val 10000 (xs.take i) * val 10000 ys) x ys k o cr) ∧ Hid (Below w.heap.size w wr)) (fun _ kk _ => ys.length - (intOf kk).toNat)
      case atStart => exact ⟨0, _, 0, Nat.zero_le _, rfl, rfl, HR, HT, HB⟩
      case round =>
        clear HT HR HB hwo
        obtain ⟨k, o, cr, hk2, rfl, rfl, HR, HT, HB⟩ := hrel
        have hcr := HT.out.carry
        by_cases hlt2 : k < ys.length
        · have cx : wr.cell? ⟨b1, off1 + i, none⟩ = some (.int .i64 (x : Nat)) := (HB.out.cell (p := ⟨b1, off1 + i, none⟩) hb1).trans (HA1.out.getD hlt Hx.out)
          obtain ⟨b2, off2, rfl, hb2, ha2⟩ := HP2.out (List.ne_nil_of_length_pos (by omega))
          obtain ⟨y, hy⟩ : ∃ y, ys.getD k 0 = y := ⟨_, rfl⟩
          have hyl : y < 10000 := by rw [← hy]; exact getD_lt (by omega) HY.out k
          have cy : wr.cell? ⟨b2, off2 + k, none⟩ = some (.int .i64 (y : Nat)) := (HB.out.cell (p := ⟨b2, off2 + k, none⟩) hb2).trans (ha2.getD hlt2 hy)
          obtain ⟨z, hz⟩ : ∃ z, o.getD (i + k) 0 = z := ⟨_, rfl⟩
          have hzl : z < 10000 := by rw [← hz]; exact getD_lt (by omega) HT.out.lt _
          have hlen := HT.out.len
          have cz : wr.cell? ⟨w.heap.size, i + k, none⟩ = some (.int .i64 (z : Nat)) := HR.out.cell (by omega) hz
          have fz : wr.frozen? ⟨w.heap.size, i + k, none⟩ = false := HR.out.frozen _
          have Hlen := Lib.hid hlen
          have Hy := Lib.hid hy
          have Hz := Lib.hid hz
          have hmul : x * y ≤ 9999 * 9999 := Nat.mul_le_mul (by omega) (by omega)
          have hmul' : ((x * y : Nat) : Int) = (x : Int) * y := by simp
          have hm0 : 0 ≤ (x : Int) * y := by omega
          have hm1 : (x : Int) * y ≤ 99980001 := by omega
          have e3 : ((cr + z + x * y : Nat) : Int) = (cr : Int) + z + x * y := by simp
          have E1 : Hid (((cr : Int) + z + x * y) % 10000 = ((cr + z + x * y) % 10000 : Nat)) := by show _ = _; omega
          have E2 : Hid (((cr : Int) + z + x * y) / 10000 = ((cr + z + x * y) / 10000 : Nat)) := by show _ = _; omega
          have HS := Lib.hid (HT.out.step (by omega) HY.out hxl hlt2 (by omega) (show cr + z + x * y = cr + o.getD (i + k) 0 + x * ys.getD k 0 by rw [Hy.out, Hz.out]))
          clear hy hz hlen ha2 hmul hmul' e3
          have i1 : (0 : Int) ≤ (i : Int) + k := by omega
          have i2 : (i : Int) + k < (xs.length : Int) + ys.length := by omega
          have i3 : ((i : Int) + k).toNat = i + k := by omega
          go_wp2_with fail
          go_region
          clear cx cy cz
          obtain ⟨w8, hw8⟩ : ∃ w8, wr.drew = w8 := ⟨_, rfl⟩
          have HR8 : Hid (Row .i64 3 w8 w.heap.size w.heap.size (xs.length + ys.length) o) := by rw [← hw8]; exact HR
          have HB8 : Hid (Below w.heap.size w w8) := by rw [← hw8]; exact HB.out.drew
          have cz : w8.cell? ⟨w.heap.size, i + k, none⟩ = some (.int .i64 (z : Nat)) := HR8.out.cell (by rw [Hlen.out]; omega) Hz.out
          have fz8 : w8.frozen? ⟨w.heap.size, i + k, none⟩ = false := HR8.out.frozen _
          rw [hw8]
          clear fz hw8
          go_wp2
          go_roundw
          case rel => exact ⟨k + 1, _, _, by omega, by go_num, by rw [E2.out], by rw [E1.out]; exact HR8.out.set _ _, HS, HB8.out.setCell (Nat.le_refl _) _⟩
          case measure => simp [intOf]; omega
        · obtain rfl : k = ys.length := by omega
          have hlen := HT.out.len
          have hz : o.getD (i + ys.length) 0 = 0 := HT.out.zero _ (Nat.le_refl _)
          have cz : wr.cell? ⟨w.heap.size, i + ys.length, none⟩ = some (.int .i64 (0 : Nat)) := HR.out.cell (by omega) hz
          have fz : wr.frozen? ⟨w.heap.size, i + ys.length, none⟩ = false := HR.out.frozen _
          have HS := Lib.hid (HT.out |> RowsInv.step (x := x) (n := xs) (by omega) Hx.out.symm)
          have Hlen := Lib.hid hlen
          clear hz hlen
          go_wp2
          go_roundw
          case rel => exact ⟨i + 1, _, by omega, by go_num, HR.out.set _ _, HS, HB.out.setCell (Nat.le_refl _) _⟩
          case measure => simp [intOf]; omega
    · obtain rfl : i = xs.length := by omega
      have HL : Hid (∀ z ∈ o, z < 10000) := HI.out.lt
      have HD : Hid (val 10000 o = n * m) := by show _ = _; rw [HI.out.done, HV.out.1, HV.out.2]
      have HNL : Hid (o.length = xs.length + ys.length) := HI.out.len
      have ht := rtrim_any HR.out.nums (.inr ⟨_, _, _, rfl⟩) HL.out _ HD.out
      rw [HNL.out] at ht
      go_wp2_with fail
      refine ht.mono ?_
      rintro e' w' ⟨v', rfl, rfl, hv, _⟩
      obtain ⟨p', m', c', rfl⟩ := hv.form
      have HVV := Lib.hid hv
      clear ht hv
      go_wp2
      go_ret
      exact ⟨_, rfl, HVV.out, HB.out⟩
end Go.Proofs.YtcncdepjbhnknaaGreatDoor
namespace Go.Proofs.YtcncdepjbhnknaaGreatDoor
open Go.RowKit

def ROverPost (w : World) (n m : Nat) (e : Ending) (w' : World) : Prop := ∃ q r, e = .returned (.tuple #[q, r]) ∧ PNum w' q (n / m) ∧ PNum w' r (n % m) ∧ Below w.heap.size w w'

theorem one_part (w : World) (x : Nat) (h0 : 0 < x) (h1 : x < 10000) : PNum (w.alloc (.cells #[.int .i64 (x : Nat)] 3)) (.slice (some ⟨w.heap.size, 0, none⟩) 1 1) x := by
  unfold PNum
  rw [limbs_one' h0 h1]
  refine ⟨⟨_, 1, rfl, Nat.le_refl _, by simp [maxLen], fun _ => ⟨_, 0, rfl, by simp, fun j hj => ?_⟩⟩, .inr ⟨_, _, _, rfl⟩⟩
  match j, hj with
  | 0, _ => exact cell_new _ _ _ 0 rfl
  | j + 1, h => simp at h

theorem limbs_cons (x r : Nat) (hx : x < 10000) : val 10000 (x :: limbs 10000 r) = r * 10000 + x := by
  rw [val_cons, val_limbs (by omega)]; omega
theorem cons_lt {x r : Nat} (hx : x < 10000) : ∀ y ∈ x :: limbs 10000 r, y < 10000 := by
  intro y hy
  rcases List.mem_cons.1 hy with rfl | hy
  · exact hx
  · exact limbs_lt (by omega) r y hy
theorem found {s d l h : Nat} (h1 : l * d ≤ s) (h2 : s < h * d) (h3 : h ≤ l + 1) (h4 : l < h) : l = s / d := by
  obtain rfl : h = l + 1 := by omega
  have hd : 0 < d := by
    rcases Nat.eq_zero_or_pos d with h0 | h0
    · subst h0; omega
    · exact h0
  exact (Nat.div_eq_of_lt_le h1 h2).symm

theorem rmul_lims {n m k l : Nat} (h1 : (limbs 10000 n).length ≤ k) (h2 : (limbs 10000 m).length ≤ l) : (limbs 10000 (n * m)).length ≤ k + l := by
  refine limbs_length_le (by omega) ?_
  have a1 := val_lt (limbs_lt (B := 10000) (by omega) n)
  have a2 := val_lt (limbs_lt (B := 10000) (by omega) m)
  rw [val_limbs (by omega)] at a1 a2
  rw [Nat.pow_add]
  refine Nat.mul_lt_mul'' (Nat.lt_of_lt_of_le a1 (Nat.pow_le_pow_right (by omega) h1)) (Nat.lt_of_lt_of_le a2 (Nat.pow_le_pow_right (by omega) h2))
theorem one_lim {x : Nat} (h0 : 0 < x) (h1 : x < 10000) : (limbs 10000 x).length ≤ 1 := by rw [limbs_one' h0 h1]; exact Nat.le_refl _

set_option maxRecDepth 100000 in
set_option maxHeartbeats 8000000 in
theorem rover_any {v1 v2 : Value} {n d : Nat} {w : World} (h1 : PNum w v1 n) (h2 : PNum w v2 d) (hl1 : (limbs 10000 n).length ≤ 100000) (hl2 : (limbs 10000 d).length ≤ 100000) (hd : 0 < d) :
    Calls Tryz.prog 149 #[v1, v2] w (ROverPost w n d) := by
  obtain ⟨i0, hi, hz0, hz1, hz2⟩ := info_parts info_int
  obtain ⟨p2, m2, c2, rfl⟩ := h2.form
  obtain ⟨p1, c1, rfl, _, _, hp1⟩ := h1.1
  obtain ⟨xs, hxs⟩ : ∃ xs, limbs 10000 n = xs := ⟨_, rfl⟩
  rw [hxs] at hl1 hp1 ⊢
  have HX : Hid (∀ x ∈ xs, x < 10000) := by rw [← hxs]; exact limbs_lt (by omega) n
  have HV : Hid (val 10000 xs = n) := by rw [← hxs]; exact val_limbs (by omega) n
  have HP1 := Lib.hid hp1
  have H2 := Lib.hid h2
  have HD0 := Lib.hid hd
  have HL2 := Lib.hid hl2
  clear hxs hp1 h1 h2 hd hl2
  go_enter Tryz.func149, Tryz.ntmps149
  go_wp2_with (at_make; refine wpList_make_full _ rfl _ _ 142 rfl w.heap.size 3 i0 (.int .i64 0) 1 Tryz.underlying142 hi hz0 hz1 _ _ _ _ (xs.length) rfl rfl (by omega) (by omega) ?b2 ?b3 (Nat.le_refl _) ?_)
  case b2 => rw [hz2]; omega
  case b3 => unfold maxLen; omega
  intro w0 hown0 hgrow0
  have HB0 := Lib.hid ((Below.refl w.heap.size w).grown hgrow0 (Nat.le_refl _) (fun k h => by cases h))
  have HR0 := Lib.hid (Row.full (k := .i64) hown0)
  clear hgrow0 hown0
  go_wp2
  go_loopw [7, 8] (fun vr vi wr => ∃ (k r : Nat) (o : List Nat), k ≤ xs.length ∧ vi = .int .i64 ((k : Int) - 1) ∧ Hid (Row .i64 3 wr w.heap.size w.heap.size xs.length o) ∧ Hid (OverInv 10000 xs d k o r) ∧ Hid (PNum wr vr r) ∧ Hid (Below w.heap.size w wr)) (fun _ vi _ => (intOf vi + 1).toNat)
  case atStart => exact ⟨xs.length, 0, _, Nat.le_refl _, rfl, HR0, OverInv.start (by omega) _ HD0.out, pnum_nil _, HB0⟩
  case round =>
    obtain ⟨k, r, o, hk, rfl, HR, HI, HRest, HB⟩ := hrel
    obtain ⟨pr, mr, cr, rfl⟩ := HRest.out.form
    have HLO : Hid (o.length = xs.length) := HI.out.inv.len
    rcases Nat.eq_zero_or_pos k with h0 | h0
    · subst h0
      have HD := HI.out.done
      have ht := rtrim_any HR.out.nums (.inr ⟨_, _, _, rfl⟩) HI.out.inv.lt (n / d) (by rw [HD.1, HV.out])
      rw [HLO.out] at ht
      have HE : Hid (r = n % d) := by show _ = _; rw [HD.2, HV.out]
      clear HD
      go_wp2_with fail
      refine ht.mono ?_
      rintro e' w' ⟨v', rfl, rfl, hv, _⟩
      obtain ⟨p', m', c', rfl⟩ := hv.form
      have HVV := Lib.hid hv
      clear ht hv
      go_wp2
      refine bodyPost_ret (v := .tuple #[.slice p' m' c', .slice pr mr cr]) (by simp [results, Tryz.f149, go_sem]) rfl ⟨_, _, rfl, HVV.out, ?_, HB.out⟩
      rw [← HE.out]; exact HRest.out
    · obtain ⟨j, rfl⟩ : ∃ j, k = j + 1 := ⟨k - 1, by omega⟩
      have hj : j < xs.length := by omega
      have ej : ((j + 1 : Nat) : Int) - 1 = (j : Nat) := by omega
      rw [ej]
      obtain ⟨b1, o1, rfl, hb1, a1⟩ := HP1.out (List.ne_nil_of_length_pos (by omega))
      obtain ⟨x, hx⟩ : ∃ x, xs.getD j 0 = x := ⟨_, rfl⟩
      have hxl : x < 10000 := by rw [← hx]; exact getD_lt (by omega) HX.out j
      have cx : wr.cell? ⟨b1, o1 + j, none⟩ = some (.int .i64 (x : Nat)) := (HB.out.cell (p := ⟨b1, o1 + j, none⟩) hb1).trans (a1.getD hj hx)
      have Hx := Lib.hid hx
      have hrd : r < d := HI.out.inv.rest
      have hlr : (limbs 10000 r).length ≤ 100000 := Nat.le_trans (limbs_length_mono (by omega) (Nat.le_of_lt hrd)) HL2.out
      have hmr : mr = (limbs 10000 r).length := by
        obtain ⟨_, _, h, _⟩ := HRest.out.1
        injection h
      have HMR := Lib.hid hmr
      obtain ⟨s, hs⟩ : ∃ s, r * 10000 + x = s := ⟨_, rfl⟩
      have HS : Hid (s = r * 10000 + xs.getD j 0) := by show _ = _; rw [Hx.out, hs]
      have HSV : Hid (val 10000 (x :: limbs 10000 r) = s) := by show _ = _; rw [limbs_cons x r hxl, hs]
      have HSL : Hid (∀ y ∈ x :: limbs 10000 r, y < 10000) := cons_lt hxl
      have hls : (limbs 10000 s).length ≤ 100001 := by
        rw [← HSV.out]
        refine Nat.le_trans (limbs_val_le (by omega) HSL.out) ?_
        simp; omega
      have hsz := HB.out.size
      have al := (Below.refl wr.heap.size wr).alloc (Nat.le_refl _) (.cells #[.int .i64 (x : Nat)] 3)
      have hown : (wr.alloc (.cells #[.int .i64 (x : Nat)] 3)).ownsRow wr.heap.size 3 1 (.slice (some ⟨wr.heap.size, 0, none⟩) 1 1) 1 [.int .i64 (x : Nat)] := World.ownsRow_lit wr #[.int .i64 (x : Nat)] 1 (Nat.le_refl _) (by simp [maxLen]) rfl
      have hrA := HRest.out.after al (Nat.le_refl _)
      have hm1 : 1 + (limbs 10000 r).length ≤ maxLen := by unfold maxLen; omega
      have hm2 : (1 + (limbs 10000 r).length) * 8 ≤ 140737488355328 := by omega
      have hm3 : wr.heap.size ≤ (wr.alloc (.cells #[.int .i64 (x : Nat)] 3)).heap.size := by simp
      clear hx a1 hs ej hmr
      go_wp2_with (at_builtin; go_loud (refine wpList_append_nums rfl _ _ 142 rfl wr.heap.size 3 i0 .i64 8 Tryz.underlying142 hi hz0 hz1 hz2 _ 1 _ rfl hown _ (limbs 10000 r) rfl hrA.1 hrA.2 hm1 hm2 hm3 ?_); intro v' w1 hown1 hgrow1)
      have hG : Grow .i64 3 w1 wr.heap.size v' (x :: limbs 10000 r) := by
        unfold Grow
        rw [List.length_cons, Nat.add_comm (limbs 10000 r).length 1]
        exact hown1
      have HWB := Lib.hid (fun g (hg : v'.ownBlock = some g) => World.ownsRow.lt hown1 g hg)
      have hlw : w.heap.size < wr.heap.size := HR.out.lt.2
      have hB1 : Below w.heap.size w w1 := (HB.out.alloc hsz _).grown hgrow1 (by simp; omega) (fun z hz => by have : wr.heap.size = z := Option.some.inj hz; omega)
      have hR1 : Row .i64 3 w1 w.heap.size w.heap.size xs.length o := (HR.out.alloc _).grown hgrow1 (by intro h; have : wr.heap.size = w.heap.size := Option.some.inj h; omega)
      have ht := rtrim_any hG.nums hG.pform HSL.out s HSV.out
      have HB1 := Lib.hid hB1
      have HR1 := Lib.hid hR1
      have HLW := Lib.hid hlw
      have HI1 := HI
      clear hown hrA hm1 hm2 hm3 al hown1 hgrow1 hG hB1 hR1 hlw cx HR HB HRest
      refine ht.mono ?_
      rintro e w1' ⟨vs, rfl, rfl, hvs, hvb⟩
      obtain ⟨ps, ms, cs, rfl⟩ := hvs.form
      have HVS := Lib.hid hvs
      have HVB : Hid (∀ g, (Value.slice ps ms cs).ownBlock = some g → w.heap.size < g) := fun g hg => by
        have := (HWB.out g (by rw [← hvb]; exact hg)).1
        have := HLW.out
        omega
      have ho := order_any hvs (H2.out.after HB1.out (Nat.le_refl _)) (by omega) (by have := HL2.out; omega)
      clear ht hvs hvb HWB
      go_wp2_with fail
      refine ho.mono ?_
      rintro e w2 ⟨rfl, hb2⟩
      have HB2 := Lib.hid (HB1.out.trans (hb2.mono HB1.out.size))
      have HR2 := Lib.hid (HR1.out.below hb2 (by have := HR1.out.lt.2; omega))
      have HVS2 := Lib.hid (HVS.out.after hb2 (Nat.le_refl _))
      clear ho hb2 HB1 HR1 HVS
      rcases Nat.lt_or_ge s d with hlt | hge
      · have hsg : sgnN s d < 0 := sgnN_neg.2 hlt
        have HS2 := Lib.hid (HI1.out.skip HX.out hj HS.out hlt)
        clear hlt
        go_wp2
        go_roundw
        case rel => exact ⟨j, s, o, by omega, by go_num, HR2, HS2, HVS2, HB2⟩
        case measure => simp [intOf] <;> omega
      · have hsg : ¬ sgnN s d < 0 := fun h => by have := sgnN_neg.1 h; omega
        have HDG : Hid (s / d < 10000) := HI1.out.digit HX.out hj HS.out
        have HUP : Hid (s < 10000 * d) := by
          have h1 := HDG.out
          have h2 := HD0.out
          have h3 := Nat.lt_mul_div_succ s h2
          have h4 : d * (s / d + 1) ≤ d * 10000 := Nat.mul_le_mul_left _ h1
          show _ < _
          rw [Nat.mul_comm 10000 d]; omega
        have HLO1 : Hid (1 * d ≤ s) := by show _ ≤ _; omega
        clear hge
        go_wp2
        obtain ⟨wo, hwo⟩ : ∃ wo : World, wo = w2 := ⟨_, rfl⟩
        go_loopw [9, 10] (fun vl vh wz => ∃ (l h : Nat), vl = .int .i64 l ∧ vh = .int .i64 h ∧ 1 ≤ l ∧ l < h ∧ h ≤ 10000 ∧ Hid (l * d ≤ s) ∧ Hid (s < h * d) ∧ Hid (Below w2.heap.size w2 wz)) (fun vl vh _ => (intOf vh - intOf vl).toNat)
        case atStart => exact ⟨1, 10000, rfl, rfl, Nat.le_refl _, by omega, Nat.le_refl _, HLO1, HUP, Below.refl _ _⟩
        case round =>
          obtain ⟨l, h, rfl, rfl, hl1', hlh, hh, HL, HH, HZ⟩ := hrel
          obtain ⟨wz, hwz⟩ : ∃ wz : World, wr = wz := ⟨_, rfl⟩
          subst hwz
          have HBZ := Lib.hid (HB2.out.trans (HZ.out.mono HB2.out.size))
          have HVZ := Lib.hid (HVS2.out.after HZ.out (Nat.le_refl _))
          by_cases hgo : 1 < h - l
          · have hgo' : (1 : Int) < (h : Int) - l := by omega
            obtain ⟨m, hm⟩ : ∃ m, (l + h) / 2 = m := ⟨_, rfl⟩
            have em : ((l : Int) + h) / 2 = (m : Nat) := by omega
            have em' : ((l : Int) + h).tdiv 2 = (m : Nat) := by rw [← em]; exact Int.tdiv_eq_ediv_of_nonneg (by omega)
            have hm0 : l < m ∧ m < h := by omega
            have al := (Below.refl wr.heap.size wr).alloc (Nat.le_refl _) (.cells #[.int .i64 (m : Nat)] 3)
            have ht := rtimes_any ((H2.out.after HBZ.out (Nat.le_refl _)).after al (Nat.le_refl _)) (one_part wr m (by omega) (by omega)) (by have := HL2.out; omega) (by have := one_lim (x := m) (by omega) (by omega); omega)
            have HAL := Lib.hid al
            clear hgo hm al
            go_wp2_with fail
            refine ht.mono ?_
            rintro e w4 ⟨vp, rfl, hvp, hb4⟩
            obtain ⟨pp, mp, cp, rfl⟩ := hvp.form
            have hb4' := HAL.out.trans (hb4.mono HAL.out.size)
            have HZ4 := Lib.hid (HZ.out.trans (hb4'.mono HZ.out.size))
            have ho := order_any hvp (HVZ.out.after hb4' (Nat.le_refl _)) (by have := rmul_lims HL2.out (one_lim (x := m) (by omega) (by omega)); omega) (by omega)
            clear ht hvp hb4 hb4'
            go_wp2_with fail
            refine ho.mono ?_
            rintro e w5 ⟨rfl, hb5⟩
            have HZ5 := Lib.hid (HZ4.out.trans (hb5.mono HZ4.out.size))
            clear ho hb5
            by_cases hle : d * m ≤ s
            · have hs : sgnN (d * m) s ≤ 0 := sgnN_le.2 hle
              have HL5 : Hid (m * d ≤ s) := by show _ ≤ _; rw [Nat.mul_comm]; exact hle
              clear hle
              go_wp2
              go_roundw
              case rel => exact ⟨m, h, rfl, rfl, by omega, by omega, by omega, HL5, HH, HZ5⟩
              case measure => simp [intOf] <;> omega
            · have hs : ¬ sgnN (d * m) s ≤ 0 := fun h => hle (sgnN_le.1 h)
              have HH5 : Hid (s < m * d) := by show _ < _; rw [Nat.mul_comm]; omega
              clear hle
              go_wp2
              go_roundw
              case rel => exact ⟨l, m, rfl, rfl, by omega, by omega, by omega, HL, HH5, HZ5⟩
              case measure => simp [intOf] <;> omega
          · have hgo' : ¬ (1 : Int) < (h : Int) - l := by omega
            have HQ : Hid (l = s / d) := found HL.out HH.out (by omega) hlh
            have HRZ := Lib.hid (HR2.out.below HZ.out (by have := HR2.out.lt.2; omega))
            have cz : wr.cell? ⟨w.heap.size, j, none⟩ = some (.int .i64 ((o.getD j 0 : Nat) : Int)) := HRZ.out.cell (by rw [HLO.out]; exact hj) rfl
            have fz : wr.frozen? ⟨w.heap.size, j, none⟩ = false := HRZ.out.frozen _
            have hjl : (j : Int) < xs.length := by omega
            have hj0 : (0 : Int) ≤ (j : Int) := by omega
            have hR3 := HRZ.out.set j l
            have hB3 := HBZ.out.setCell (p := ⟨w.heap.size, j, none⟩) (Nat.le_refl _) (.int .i64 (l : Nat))
            have hV3 : PNum (wr.setCell ⟨w.heap.size, j, none⟩ (.int .i64 (l : Nat))) (.slice ps ms cs) s := HVZ.out.kept (by simp) (fun b hb _ => Below.heap_setCell wr ⟨w.heap.size, j, none⟩ _ b (by have := HVB.out b hb; simp; omega))
            obtain ⟨w3, hw3⟩ : ∃ w3, wr.setCell ⟨w.heap.size, j, none⟩ (.int .i64 (l : Nat)) = w3 := ⟨_, rfl⟩
            rw [hw3] at hR3 hB3 hV3
            have HR3 := Lib.hid hR3
            have HB3 := Lib.hid hB3
            have HV3 := Lib.hid hV3
            have al := (Below.refl w3.heap.size w3).alloc (Nat.le_refl _) (.cells #[.int .i64 (l : Nat)] 3)
            have ht := rtimes_any ((H2.out.after HB3.out (Nat.le_refl _)).after al (Nat.le_refl _)) (one_part w3 l (by omega) (by omega)) (by have := HL2.out; omega) (by have := one_lim (x := l) (by omega) (by omega); omega)
            have HAL := Lib.hid al
            clear hgo hR3 hB3 hV3 al
            go_wp2_with fail
            refine ht.mono ?_
            rintro e w4 ⟨vp, rfl, hvp, hb4⟩
            obtain ⟨pp, mp, cp, rfl⟩ := hvp.form
            have hb4' := HAL.out.trans (hb4.mono HAL.out.size)
            have HB4 := Lib.hid (HB3.out.trans (hb4'.mono HB3.out.size))
            have HR4 := Lib.hid (HR3.out.below hb4' (by have := HR3.out.lt.2; omega))
            have hmin := rminus_any (HV3.out.after hb4' (Nat.le_refl _)) hvp (by rw [HQ.out]; exact Nat.mul_div_le s d) (by omega)
            have HE : Hid (s - d * l = s % d) := by show _ = _; rw [HQ.out]; exact (Nat.mod_eq_sub ..).symm
            rw [HE.out] at hmin
            clear ht hvp hb4 hb4' hw3 cz fz
            go_wp2_with fail
            refine hmin.mono ?_
            rintro e w5 ⟨vr, rfl, hvr, hb5⟩
            obtain ⟨pr, mr', cr', rfl⟩ := hvr.form
            have HVR := Lib.hid hvr
            have HB5 := Lib.hid (HB4.out.trans (hb5.mono HB4.out.size))
            have HR5 := Lib.hid (HR4.out.below hb5 (by have := HR4.out.lt.2; omega))
            have HI5 := Lib.hid (HI1.out.step HX.out hj HS.out HQ.out rfl)
            clear hmin hvr hb5
            go_wp2
            go_roundw
            case rel => exact ⟨j, s % d, _, by omega, by go_num, HR5, HI5, HVR, HB5⟩
            case measure => simp [intOf] <;> omega

theorem at_only {k : IntKind} {w : World} {b off : Nat} {xs ys : List Nat} (h1 : At k w b off xs) (h2 : At k w b off ys) (hl : xs.length = ys.length) : xs = ys := by
  refine List.ext_getElem hl fun j h3 h4 => ?_
  have h5 := (h1 j h3).symm.trans (h2 j h4)
  injection h5 with h5
  injection h5 with _ h5
  omega
theorem PNum.unique {w : World} {v : Value} {n m : Nat} (h10 : PNum w v n) (h20 : PNum w v m) : n = m := by
  obtain ⟨p1, c1, rfl, _, _, h1⟩ := h10.1
  obtain ⟨p2, c2, hv, _, _, h2⟩ := h20.1
  injection hv with e1 e2 e3
  have : limbs 10000 n = limbs 10000 m := by
    by_cases hn : limbs 10000 n = []
    · rw [hn] at e2 ⊢
      exact (List.eq_nil_of_length_eq_zero e2.symm).symm
    · have hm : limbs 10000 m ≠ [] := fun h => by rw [h] at e2; exact hn (List.eq_nil_of_length_eq_zero e2)
      obtain ⟨b1, o1, rfl, _, a1⟩ := h1 hn
      obtain ⟨b2, o2, hb, _, a2⟩ := h2 hm
      rw [← e1] at hb
      injection hb with hb
      injection hb with hb1 hb2
      subst hb1; subst hb2
      exact at_only a1 a2 e2
  have h3 := congrArg (val 10000) this
  rwa [val_limbs (by omega), val_limbs (by omega)] at h3
open Classical in
noncomputable def pnumV (w : World) (v : Value) : Nat := if h : ∃ n, PNum w v n then h.choose else 0
theorem pnumV_eq {w : World} {v : Value} {n : Nat} (h : PNum w v n) : pnumV w v = n := by
  unfold pnumV
  rw [dif_pos ⟨n, h⟩]
  exact PNum.unique (Exists.choose_spec (⟨n, h⟩ : ∃ n, PNum w v n)) h

set_option maxRecDepth 100000 in
set_option maxHeartbeats 4000000 in
theorem rgcd_any {v1 v2 : Value} {n m : Nat} {w : World} (h1 : PNum w v1 n) (h2 : PNum w v2 m) (hl1 : (limbs 10000 n).length ≤ 100000) (hl2 : (limbs 10000 m).length ≤ 100000) :
    Calls Tryz.prog 148 #[v1, v2] w (PPost w (Nat.gcd n m)) := by
  have H1 := Lib.hid h1
  have H2 := Lib.hid h2
  clear h1 h2
  go_enter Tryz.func148, Tryz.ntmps148
  go_wp2
  go_loopw [0, 1] (fun va vb wr => ∃ (a b : Nat), Hid (PNum wr va a) ∧ Hid (PNum wr vb b) ∧ Hid (Nat.gcd a b = Nat.gcd n m) ∧ Hid ((limbs 10000 a).length ≤ 100000 ∧ (limbs 10000 b).length ≤ 100000) ∧ Hid (Below w.heap.size w wr)) (fun _ vb wr => pnumV wr vb)
  case atStart => exact ⟨n, m, H1, H2, rfl, ⟨hl1, hl2⟩, Below.refl _ _⟩
  case round =>
    obtain ⟨a, b, HA, HB, HG, HL, HW⟩ := hrel
    obtain ⟨pa, ma, ca, rfl⟩ := HA.out.form
    rcases Nat.eq_zero_or_pos b with h0 | h0
    · subst h0
      obtain ⟨p, c, rfl, _, _, _⟩ := id HB.out.1
      have e0 : (limbs 10000 0).length = 0 := by rw [limbs_zero]; rfl
      rw [e0]
      have HN : Hid (PNum wr (.slice pa ma ca) (Nat.gcd n m)) := by
        have h := HG.out
        rw [Nat.gcd_zero_right] at h
        rw [← h]; exact HA
      clear HB HA HG HL e0
      go_wp2
      go_ret
      exact ⟨_, rfl, HN.out, HW.out⟩
    · obtain ⟨p, c, rfl, _, _, _⟩ := id HB.out.1
      have hp : 0 < (limbs 10000 b).length := (limbs_length_pos (by omega)).2 h0
      have HNB : Hid (pnumV wr (.slice p (limbs 10000 b).length c) = b) := pnumV_eq HB.out
      have hov := rover_any HA.out HB.out HL.out.1 HL.out.2 h0
      obtain ⟨l, hl⟩ : ∃ l, (limbs 10000 b).length = l := ⟨_, rfl⟩
      rw [hl] at hov hp HB HNB ⊢
      have Hl := Lib.hid hl
      clear hl
      go_wp2_with fail
      refine hov.mono ?_
      rintro e w9 ⟨q, r, rfl, hq, hr, hb9⟩
      have HR := Lib.hid hr
      have HB9 : Hid (PNum w9 (.slice p l c) b) := HB.out.after hb9 (Nat.le_refl _)
      have HW9 := Lib.hid (HW.out.trans (hb9.mono HW.out.size))
      have HM : Hid (pnumV w9 r < b) := by show _ < _; rw [pnumV_eq hr]; exact Nat.mod_lt _ h0
      clear hov hq hr hb9
      go_wp2
      go_roundw
      case rel => exact ⟨b, a % b, HB9, HR, by rw [← HG.out, Nat.gcd_comm a b]; exact (Nat.gcd_rec b a).symm ▸ (Nat.gcd_comm _ _), ⟨HL.out.2, Nat.le_trans (limbs_length_mono (by omega) (Nat.mod_le _ _)) HL.out.1⟩, HW9⟩
      case measure => rw [HNB.out]; exact HM.out
end Go.Proofs.YtcncdepjbhnknaaGreatDoor
namespace Go.Proofs.YtcncdepjbhnknaaGreatDoor
open Go.RowKit

theorem isDig_no {c : UInt8} (h : isDig c = false) : (c.toNat : Int) < 48 ∨ (57 : Int) < c.toNat := by
  unfold isDig at h
  have := of_decide_eq_false h
  omega
theorem all_false {l : List UInt8} {i : Nat} (hi : i < l.length) (h : isDig l[i] = false) : l.all isDig = false := by
  rw [List.all_eq_false]
  exact ⟨l[i], List.getElem_mem hi, by rw [h]; simp⟩
theorem all_true {l : List UInt8} (h : ∀ j (hj : j < l.length), isDig l[j] = true) : l.all isDig = true := by
  rw [List.all_eq_true]
  intro x hx
  obtain ⟨j, hj, rfl⟩ := List.getElem_of_mem hx
  exact h j hj
theorem natOk_no {l : List UInt8} (h : l.all isDig = false) : natOk l = false := by unfold natOk wholeOk plainOk; rw [h]; simp
def DigTo (s : ByteArray) (k : Nat) : Prop := ∀ j (h : j < s.data.toList.length), j < k → isDig s.data.toList[j] = true
theorem DigTo.next {s : ByteArray} {k : Nat} (h : DigTo s k) (hk : k < s.size) (hd : isDig s[k] = true) : DigTo s (k + 1) := by
  intro j h1 h2
  rcases Nat.lt_or_ge j k with h3 | h3
  · exact h j h1 h3
  · obtain rfl : j = k := by omega
    exact hd
theorem DigTo.start (s : ByteArray) : DigTo s 0 := by
  intro j _ h
  exact absurd h (by omega)
theorem DigTo.done {s : ByteArray} (h : DigTo s s.size) : s.data.toList.all isDig = true := all_true fun j hj => h j hj (by have h2 := hj; rw [size_len] at h2; exact h2)
theorem dig_stop {s : ByteArray} {k : Nat} (hk : k < s.size) (h : isDig s[k] = false) : s.data.toList.all isDig = false := all_false (i := k) (by rw [size_len]; exact hk) h


set_option maxRecDepth 100000 in
set_option maxHeartbeats 2000000 in
theorem rnat_loop (s : ByteArray) (w : World) (h0 : 0 < s.size) (h6 : s.size ≤ 600) (hh : s.size = 1 ∨ ∃ c, (∃ h, s[0]'h = c) ∧ ((c.toNat : Int) == 48) = false) :
    Calls Tryz.prog 127 #[.string s] w fun e w' => e = .returned (.bool (natOk s.data.toList)) ∧ w = w' := by
  have e0 : ¬ (s.size : Int) = 0 := by omega
  have e0' : ((s.size : Int) == 0) = false := by rw [beq_eq_false_iff_ne]; omega
  have e6 : ¬ (600 : Int) < s.size := by omega
  have HH := Lib.hid hh
  have HQ : Hid (s.data.toList.all isDig = true → natOk s.data.toList = true) := fun ha => by
    unfold natOk wholeOk plainOk
    have hne : s.data.toList ≠ [] := List.ne_nil_of_length_pos (by rw [size_len]; exact h0)
    have hl : s.data.toList.length ≤ 600 := by rw [size_len]; exact h6
    have hx : 1 < s.data.toList.length → s.data.toList.head? ≠ some 48 := fun h1 => by
      rw [size_len] at h1
      rcases hh with h | ⟨c, ⟨h2, hc⟩, h3⟩
      · omega
      · intro h4
        have := (head48 s h2).1 h4
        rw [hc] at this
        rw [beq_eq_false_iff_ne] at h3
        exact h3 this
    simp [ha, hne]
    refine ⟨?_, h6⟩
    rcases Nat.lt_or_ge 1 s.size with h | h
    · exact .inr (hx (by rw [size_len]; exact h))
    · exact .inl h
  clear hh
  rcases HH.out with h1 | ⟨c0, ⟨h2, hc⟩, h3⟩
  · have e1 : ¬ (1 : Int) < s.size := by omega
    clear h1
    go_enter Tryz.func127, Tryz.ntmps127
    go_wp2
    go_loop [3] (fun vi => ∃ (k : Nat), vi = .int .i64 k ∧ k ≤ s.size ∧ Hid (DigTo s k)) (fun vi => s.size - (intOf vi).toNat)
    case atStart => exact ⟨0, rfl, Nat.zero_le _, DigTo.start s⟩
    case round =>
      obtain ⟨k, rfl, hk, HK⟩ := hrel
      by_cases hlt : k < s.size
      · have hlt' : (k : Int) < s.size := by omega
        obtain ⟨c, hc⟩ : ∃ c, s[k] = c := ⟨_, rfl⟩
        cases hd : isDig c
        · have HS : Hid (s.data.toList.all isDig = false) := dig_stop hlt (by rw [hc]; exact hd)
          rcases isDig_no hd with h1 | h1
          · clear hd
            go_wp2
            go_ret
            exact ⟨by rw [natOk_no HS.out]; rfl, rfl⟩
          · have h2 : ¬ (c.toNat : Int) < 48 := by omega
            clear hd
            go_wp2
            go_ret
            exact ⟨by rw [natOk_no HS.out]; rfl, rfl⟩
        · have hd2 := of_decide_eq_true hd
          have h1 : ¬ (c.toNat : Int) < 48 := by omega
          have h2 : ¬ (57 : Int) < c.toNat := by omega
          have HK2 : Hid (DigTo s (k + 1)) := HK.out.next hlt (by rw [hc]; exact hd)
          clear hd hd2
          go_wp2
          go_round
          case rel => exact ⟨k + 1, by go_num, by omega, HK2⟩
          case measure => simp [intOf]; omega
      · have hlt' : ¬ (k : Int) < s.size := by omega
        have HA : Hid (s.data.toList.all isDig = true) := by
          obtain rfl : k = s.size := by omega
          exact HK.out.done
        clear hlt
        go_wp2
        go_ret
        exact ⟨by rw [HQ.out HA.out]; rfl, rfl⟩
  · by_cases h1 : 1 < s.size
    · have e1 : (1 : Int) < s.size := by omega
      clear h1
      go_enter Tryz.func127, Tryz.ntmps127
      go_wp2
      clear hc h3
      go_loop [3] (fun vi => ∃ (k : Nat), vi = .int .i64 k ∧ k ≤ s.size ∧ Hid (DigTo s k)) (fun vi => s.size - (intOf vi).toNat)
      case atStart => exact ⟨0, rfl, Nat.zero_le _, DigTo.start s⟩
      case round =>
        obtain ⟨k, rfl, hk, HK⟩ := hrel
        by_cases hlt : k < s.size
        · have hlt' : (k : Int) < s.size := by omega
          obtain ⟨c, hc⟩ : ∃ c, s[k] = c := ⟨_, rfl⟩
          cases hd : isDig c
          · have HS : Hid (s.data.toList.all isDig = false) := dig_stop hlt (by rw [hc]; exact hd)
            rcases isDig_no hd with h1 | h1
            · clear hd
              go_wp2
              go_ret
              exact ⟨by rw [natOk_no HS.out]; rfl, rfl⟩
            · have h2 : ¬ (c.toNat : Int) < 48 := by omega
              clear hd
              go_wp2
              go_ret
              exact ⟨by rw [natOk_no HS.out]; rfl, rfl⟩
          · have hd2 := of_decide_eq_true hd
            have h1 : ¬ (c.toNat : Int) < 48 := by omega
            have h2 : ¬ (57 : Int) < c.toNat := by omega
            have HK2 : Hid (DigTo s (k + 1)) := HK.out.next hlt (by rw [hc]; exact hd)
            clear hd hd2
            go_wp2
            go_round
            case rel => exact ⟨k + 1, by go_num, by omega, HK2⟩
            case measure => simp [intOf]; omega
        · have hlt' : ¬ (k : Int) < s.size := by omega
          have HA : Hid (s.data.toList.all isDig = true) := by
            obtain rfl : k = s.size := by omega
            exact HK.out.done
          clear hlt
          go_wp2
          go_ret
          exact ⟨by rw [HQ.out HA.out]; rfl, rfl⟩
    · have e1 : ¬ (1 : Int) < s.size := by omega
      clear h1 hc h3
      go_enter Tryz.func127, Tryz.ntmps127
      go_wp2
      go_loop [3] (fun vi => ∃ (k : Nat), vi = .int .i64 k ∧ k ≤ s.size ∧ Hid (DigTo s k)) (fun vi => s.size - (intOf vi).toNat)
      case atStart => exact ⟨0, rfl, Nat.zero_le _, DigTo.start s⟩
      case round =>
        obtain ⟨k, rfl, hk, HK⟩ := hrel
        by_cases hlt : k < s.size
        · have hlt' : (k : Int) < s.size := by omega
          obtain ⟨c, hc⟩ : ∃ c, s[k] = c := ⟨_, rfl⟩
          cases hd : isDig c
          · have HS : Hid (s.data.toList.all isDig = false) := dig_stop hlt (by rw [hc]; exact hd)
            rcases isDig_no hd with h1 | h1
            · clear hd
              go_wp2
              go_ret
              exact ⟨by rw [natOk_no HS.out]; rfl, rfl⟩
            · have h2 : ¬ (c.toNat : Int) < 48 := by omega
              clear hd
              go_wp2
              go_ret
              exact ⟨by rw [natOk_no HS.out]; rfl, rfl⟩
          · have hd2 := of_decide_eq_true hd
            have h1 : ¬ (c.toNat : Int) < 48 := by omega
            have h2 : ¬ (57 : Int) < c.toNat := by omega
            have HK2 : Hid (DigTo s (k + 1)) := HK.out.next hlt (by rw [hc]; exact hd)
            clear hd hd2
            go_wp2
            go_round
            case rel => exact ⟨k + 1, by go_num, by omega, HK2⟩
            case measure => simp [intOf]; omega
        · have hlt' : ¬ (k : Int) < s.size := by omega
          have HA : Hid (s.data.toList.all isDig = true) := by
            obtain rfl : k = s.size := by omega
            exact HK.out.done
          clear hlt
          go_wp2
          go_ret
          exact ⟨by rw [HQ.out HA.out]; rfl, rfl⟩

set_option maxRecDepth 100000 in
set_option maxHeartbeats 2000000 in
theorem rnat_any (s : ByteArray) (w : World) (hs : s.size ≤ 1000000) :
    Calls Tryz.prog 127 #[.string s] w fun e w' => e = .returned (.bool (natOk s.data.toList)) ∧ w = w' := by
  rcases Nat.eq_zero_or_pos s.size with h0 | h0
  · have HQ : Hid (natOk s.data.toList = false) := by
      have : s.data.toList = [] := List.eq_nil_of_length_eq_zero (by rw [size_len]; exact h0)
      show _ = _
      rw [this]; rfl
    have e0 : (s.size : Int) = 0 := by omega
    clear h0
    go_enter Tryz.func127, Tryz.ntmps127
    go_wp2
    go_ret
    exact ⟨by rw [HQ.out]; rfl, rfl⟩
  · have e0 : ¬ (s.size : Int) = 0 := by omega
    have e0' : ((s.size : Int) == 0) = false := by rw [beq_eq_false_iff_ne]; omega
    rcases Nat.lt_or_ge 600 s.size with h6 | h6
    · have HQ : Hid (natOk s.data.toList = false) := by
        show _ = _
        unfold natOk
        rw [size_len]
        simp; omega
      have e6 : (600 : Int) < s.size := by omega
      clear h6 h0
      go_enter Tryz.func127, Tryz.ntmps127
      go_wp2
      go_ret
      exact ⟨by rw [HQ.out]; rfl, rfl⟩
    · obtain ⟨c, hc⟩ : ∃ c, s[0]'h0 = c := ⟨_, rfl⟩
      cases h3 : ((c.toNat : Int) == 48)
      · exact rnat_loop s w h0 h6 (.inr ⟨c, ⟨h0, hc⟩, h3⟩)
      · by_cases h1 : s.size = 1
        · exact rnat_loop s w h0 h6 (.inl h1)
        · have e1 : (1 : Int) < s.size := by omega
          have HQ : Hid (natOk s.data.toList = false) := by
            have h4 := (head48 s h0).2 (by rw [hc]; simpa using h3)
            show _ = _
            unfold natOk wholeOk
            rw [size_len, h4]
            simp; omega
          have e6 : ¬ (600 : Int) < s.size := by omega
          clear h6 h1
          go_enter Tryz.func127, Tryz.ntmps127
          go_wp2
          go_ret
          exact ⟨by rw [HQ.out]; rfl, rfl⟩

end Go.Proofs.YtcncdepjbhnknaaGreatDoor
namespace Go.Proofs.YtcncdepjbhnknaaGreatDoor
open Go.RowKit Go.Shelf
attribute [local go_sem ↓] Go.wp_at_zero Go.wp_at_succ



theorem rparts_any (s : ByteArray) (hl : s.size ≤ 1000000) (hd : ∀ c ∈ s.data.toList, isDig c = true) (w : World) :
    Calls Tryz.prog 119 #[.string s] w (PPost w (decVal s.data.toList)) := by
  have hp := parts_any s hl hd w
  clear hd
  go_enter Tryz.func119, Tryz.ntmps119
  go_wp2_with fail
  refine hp.mono ?_
  rintro e w1 ⟨v, rfl, hv, hb⟩
  obtain ⟨p, m, c, rfl⟩ := hv.form
  have HV := Lib.hid hv
  have HB := Lib.hid hb
  clear hp hv hb
  go_wp2
  go_ret
  exact ⟨_, rfl, HV.out, HB.out⟩
theorem rnatOf_any {v : Value} {n : Nat} {w : World} (h : PNum w v n) (hl : (limbs 10000 n).length ≤ 1000000) :
    Calls Tryz.prog 126 #[v] w (StrPost (str (Lib.decDigits n)) w) := by
  have hp := rdigits_any h hl
  clear h
  go_enter Tryz.func126, Tryz.ntmps126
  go_wp2_with fail
  refine hp.mono ?_
  rintro e w1 ⟨rfl, hb⟩
  have HB := Lib.hid hb
  clear hp hb
  go_wp2
  go_ret
  exact ⟨rfl, HB.out⟩

set_option maxRecDepth 100000 in
set_option maxHeartbeats 4000000 in
theorem made_any {v1 v2 : Value} {n d : Nat} {w : World} (h1 : PNum w v1 n) (h2 : PNum w v2 d) (hl1 : (limbs 10000 n).length ≤ 100000) (hl2 : (limbs 10000 d).length ≤ 100000) (hd : 0 < d) :
    Calls Tryz.prog 117 #[v1, v2] w (PartPost (Ans (mkRat (n : Nat) d)) w) := by
  obtain ⟨g, hg⟩ : ∃ g, Nat.gcd n d = g := ⟨_, rfl⟩
  have hg0 : 0 < g := by rw [← hg]; exact Nat.gcd_pos_of_pos_right _ hd
  have hgl : (limbs 10000 g).length ≤ 100000 := Nat.le_trans (limbs_length_mono (by omega) (by rw [← hg]; exact Nat.gcd_le_right _ hd)) hl2
  have HQ : Hid (numD (mkRat (n : Nat) d) = Lib.decDigits (n / g) ∧ denD (mkRat (n : Nat) d) = Lib.decDigits (d / g)) := by rw [← hg]; exact digits_mkRat n hd
  obtain ⟨p1, m1, c1, rfl⟩ := h1.form
  obtain ⟨p2, m2, c2, rfl⟩ := h2.form
  have H1 := Lib.hid h1
  have H2 := Lib.hid h2
  have HG0 := Lib.hid hg
  clear h1 h2 hg
  go_enter Tryz.func117, Tryz.ntmps117
  go_wp2_with fail
  obtain ⟨w1, hw1⟩ : ∃ w1, w.alloc (.cells #[.string ⟨#[]⟩, .string ⟨#[]⟩] 46) = w1 := ⟨_, rfl⟩
  rw [hw1]
  have HX1 : Hid (Boxes w.heap.size [.cells #[.string ⟨#[]⟩, .string ⟨#[]⟩] 46] w1) := by rw [← hw1]; exact Boxes.one w _
  have HB1 : Hid (Below w.heap.size w w1) := by rw [← hw1]; exact (Below.refl _ w).alloc (Nat.le_refl _) _
  clear hw1
  refine (rgcd_any (H1.out.after HB1.out (Nat.le_refl _)) (H2.out.after HB1.out (Nat.le_refl _)) hl1 hl2).mono ?_
  rintro e w2 ⟨vg, rfl, hG, hb2⟩
  obtain ⟨pg, lg, cg, rfl⟩ := hG.form
  rw [HG0.out] at hG
  have HG := Lib.hid hG
  have HB2 := Lib.hid (HB1.out.trans (hb2.mono HB1.out.size))
  have HX2 := Lib.hid (HX1.out.below hb2 HX1.out.lt)
  clear hG hb2
  go_wp2_with fail
  refine (rover_any (H1.out.after HB2.out (Nat.le_refl _)) HG.out hl1 hgl hg0).mono ?_
  rintro e w3 ⟨vn, vr, rfl, hN, hR, hb3⟩
  obtain ⟨pn, ln, cn, rfl⟩ := hN.form
  obtain ⟨pr, lr, cr, rfl⟩ := hR.form
  have HN3 := Lib.hid hN
  have HG3 := Lib.hid (HG.out.after hb3 (Nat.le_refl _))
  have HB3 := Lib.hid (HB2.out.trans (hb3.mono HB2.out.size))
  have HX3 := Lib.hid (HX2.out.below hb3 HX2.out.lt)
  clear hN hR hb3
  go_wp2_with fail
  refine (rover_any (H2.out.after HB3.out (Nat.le_refl _)) HG3.out hl2 hgl hg0).mono ?_
  rintro e w4 ⟨vd, vs, rfl, hD, hS, hb4⟩
  obtain ⟨pd, ld, cd, rfl⟩ := hD.form
  obtain ⟨ps, ls, cs, rfl⟩ := hS.form
  have HD4 := Lib.hid hD
  have HN4 := Lib.hid (HN3.out.after hb4 (Nat.le_refl _))
  have HB4 := Lib.hid (HB3.out.trans (hb4.mono HB3.out.size))
  have HX4 := Lib.hid (HX3.out.below hb4 HX3.out.lt)
  clear hD hS hb4
  have hln : (limbs 10000 (n / g)).length ≤ 100000 := Nat.le_trans (limbs_length_mono (by omega) (Nat.div_le_self _ _)) hl1
  have hld : (limbs 10000 (d / g)).length ≤ 100000 := Nat.le_trans (limbs_length_mono (by omega) (Nat.div_le_self _ _)) hl2
  go_wp2_with fail
  refine (rnatOf_any HN4.out (by omega)).mono ?_
  rintro e w5 ⟨rfl, hb5⟩
  have HD5 := Lib.hid (HD4.out.after hb5 (Nat.le_refl _))
  have HB5 := Lib.hid (HB4.out.trans (hb5.mono HB4.out.size))
  have HX5 := Lib.hid (HX4.out.below hb5 HX4.out.lt)
  clear hb5
  obtain ⟨s, hs⟩ : ∃ s, str (Lib.decDigits (n / g)) = s := ⟨_, rfl⟩
  rw [hs]
  have HS : Hid (str (Lib.decDigits (n / g)) = s ∧ s.size = (Lib.decDigits (n / g)).length) := ⟨hs, by rw [← hs, str_size]⟩
  clear hs
  go_wp2_with fail
  refine (rnatOf_any HD5.out (by omega)).mono ?_
  rintro e w6 ⟨rfl, hb6⟩
  have HB6 := Lib.hid (HB5.out.trans (hb6.mono HB5.out.size))
  have HX6 := Lib.hid (HX5.out.below hb6 HX5.out.lt)
  clear hb6
  obtain ⟨t, ht⟩ : ∃ t, str (Lib.decDigits (d / g)) = t := ⟨_, rfl⟩
  rw [ht]
  have HT : Hid (str (Lib.decDigits (d / g)) = t ∧ t.size = (Lib.decDigits (d / g)).length) := ⟨ht, by rw [← ht, str_size]⟩
  clear ht
  have c0 : (w6.alloc (.cells #[.string s, .string t] 46)).cell? ⟨w6.heap.size, 0, none⟩ = some (.string s) := cell_new _ _ _ 0 rfl
  have c1 : (w6.alloc (.cells #[.string s, .string t] 46)).cell? ⟨w6.heap.size, 1, none⟩ = some (.string t) := cell_new _ _ _ 1 rfl
  have HX7 := Lib.hid (HX6.out.alloc (.cells #[.string s, .string t] 46))
  have HB7 := Lib.hid (HB6.out.alloc HB6.out.size (.cells #[.string s, .string t] 46))
  by_cases e1 : (600 : Int) < s.size
  · skip
    have r0 := HX7.out.cell 0 0 (b := w.heap.size) rfl rfl rfl
    have r1 := HX7.out.cell 0 1 (b := w.heap.size) rfl rfl rfl
    have f0 := HX7.out.free 0 0 (b := w.heap.size) rfl rfl
    have f1 := HX7.out.free 0 1 (b := w.heap.size) rfl rfl
    go_wp2
    have q := two_put_cells (HX7.out.block 0 (b := w.heap.size) rfl rfl) (.string ⟨#[]⟩) (.string ⟨#[]⟩)
    have HBQ := Lib.hid (two_put_below HB7.out (b := w.heap.size) (by omega) (.string ⟨#[]⟩) (.string ⟨#[]⟩))
    obtain ⟨w9, hw9⟩ : ∃ w9, ((w6.alloc (.cells #[.string s, .string t] 46)).setCell ⟨w.heap.size, 0, none⟩ (.string ⟨#[]⟩)).setCell ⟨w.heap.size, 1, none⟩ (.string ⟨#[]⟩) = w9 := ⟨_, rfl⟩
    rw [hw9] at q HBQ
    obtain ⟨q0, q1⟩ := q
    rw [hw9]
    clear r0 r1 f0 f1 hw9
    go_wp2
    refine bodyPost_ret (v := .tuple #[.agg #[.string ⟨#[]⟩, .string ⟨#[]⟩], .int .i64 4]) (by simp [results, Tryz.f117, go_sem, q0, q1]) rfl ⟨_, _, _, rfl, ?_, HBQ.out⟩
    exact .inr ⟨fun hf => by have := hf.1; rw [HQ.out.1, ← HS.out.2] at this; omega, rfl, rfl, rfl⟩
  · by_cases e2 : (600 : Int) < t.size
    · skip
      have r0 := HX7.out.cell 0 0 (b := w.heap.size) rfl rfl rfl
      have r1 := HX7.out.cell 0 1 (b := w.heap.size) rfl rfl rfl
      have f0 := HX7.out.free 0 0 (b := w.heap.size) rfl rfl
      have f1 := HX7.out.free 0 1 (b := w.heap.size) rfl rfl
      go_wp2
      have q := two_put_cells (HX7.out.block 0 (b := w.heap.size) rfl rfl) (.string ⟨#[]⟩) (.string ⟨#[]⟩)
      have HBQ := Lib.hid (two_put_below HB7.out (b := w.heap.size) (by omega) (.string ⟨#[]⟩) (.string ⟨#[]⟩))
      obtain ⟨w9, hw9⟩ : ∃ w9, ((w6.alloc (.cells #[.string s, .string t] 46)).setCell ⟨w.heap.size, 0, none⟩ (.string ⟨#[]⟩)).setCell ⟨w.heap.size, 1, none⟩ (.string ⟨#[]⟩) = w9 := ⟨_, rfl⟩
      rw [hw9] at q HBQ
      obtain ⟨q0, q1⟩ := q
      rw [hw9]
      clear r0 r1 f0 f1 hw9
      go_wp2
      refine bodyPost_ret (v := .tuple #[.agg #[.string ⟨#[]⟩, .string ⟨#[]⟩], .int .i64 4]) (by simp [results, Tryz.f117, go_sem, q0, q1]) rfl ⟨_, _, _, rfl, ?_, HBQ.out⟩
      exact .inr ⟨fun hf => by have := hf.2; rw [HQ.out.2, ← HT.out.2] at this; omega, rfl, rfl, rfl⟩
    · skip
      have r0 := HX7.out.cell 0 0 (b := w.heap.size) rfl rfl rfl
      have r1 := HX7.out.cell 0 1 (b := w.heap.size) rfl rfl rfl
      have f0 := HX7.out.free 0 0 (b := w.heap.size) rfl rfl
      have f1 := HX7.out.free 0 1 (b := w.heap.size) rfl rfl
      go_wp2
      have q := two_put_cells (HX7.out.block 0 (b := w.heap.size) rfl rfl) (.string s) (.string t)
      have HBQ := Lib.hid (two_put_below HB7.out (b := w.heap.size) (by omega) (.string s) (.string t))
      obtain ⟨w9, hw9⟩ : ∃ w9, ((w6.alloc (.cells #[.string s, .string t] 46)).setCell ⟨w.heap.size, 0, none⟩ (.string s)).setCell ⟨w.heap.size, 1, none⟩ (.string t) = w9 := ⟨_, rfl⟩
      rw [hw9] at q HBQ
      obtain ⟨q0, q1⟩ := q
      rw [hw9]
      clear r0 r1 f0 f1 hw9
      go_wp2
      refine bodyPost_ret (v := .tuple #[.agg #[.string s, .string t], .int .i64 0]) (by simp [results, Tryz.f117, go_sem, q0, q1]) rfl ⟨_, _, _, rfl, ?_, HBQ.out⟩
      refine .inl ⟨⟨mkRat_nonneg _ _, ?_, ?_, ?_⟩, rfl⟩
      · rw [← HS.out.1, HQ.out.1]
      · rw [← HT.out.1, HQ.out.2]
      · unfold Fits
        rw [HQ.out.1, HQ.out.2, ← HS.out.2, ← HT.out.2]
        omega
end Go.Proofs.YtcncdepjbhnknaaGreatDoor
