/- The parts RTable, RWidth, Copy, LawWidths, DRowSight, LawWidthsLift of a proof, put together by program (merge6.py). -/
import Derived.Test.YtcncdepjbhnknaaGreatDoorH14
import Derived.Test.YtcncdepjbhnknaaGreatDoorR01
import Derived.Test.YtcncdepjbhnknaaGreatDoorH16
import Derived.BigQuiet
import Derived.Test.YtcncdepjbhnknaaGreatDoorH11
import Derived.Test.YtcncdepjbhnknaaGreatDoorJ01
import Derived.Test.YtcncdepjbhnknaaGreatDoorH21
import Derived.Test.YtcncdepjbhnknaaGreatDoorH22
set_option linter.unusedVariables false
set_option linter.unusedSimpArgs false
/- The document's Table, CheckTable. -/
namespace Go.Proofs.YtcncdepjbhnknaaGreatDoor
open Go.RowKit Go.Shelf
attribute [local go_sem ↓] Go.wp_at_zero Go.wp_at_succ

def TabPost (l : List Sg) (w : World) (e : Ending) (w' : World) : Prop := ∃ r : Bool, e = .returned (.bool r) ∧ (r = true ↔ TableP l) ∧ Below w.heap.size w w'
/-- What CheckTable answers. -/
def RCheckT (l : List Sg) (w : World) (e : Ending) (w' : World) : Prop := ∃ n : Int, e = .returned (.int .i64 n) ∧ ((TableP l ∧ n = 0) ∨ (¬ TableP l ∧ n = 2)) ∧ Below w.heap.size w w'
theorem tab_no {l : List Sg} (h : ¬ TableP l) : (false = true ↔ TableP l) := ⟨fun h2 => (by cases h2), fun h2 => absurd h2 h⟩
set_option maxRecDepth 100000 in
set_option maxHeartbeats 8000000 in
theorem rtable_any {v : Value} {l : List Sg} {w : World} (hv : SL w v l) : Calls Tryz.prog 48 #[v] w (TabPost l w) := by
  obtain ⟨n, hn⟩ : ∃ n, l.length = n := ⟨_, rfl⟩
  obtain ⟨p, c, rfl⟩ : ∃ p c, v = .slice p n c := by obtain ⟨p, c, h, _⟩ := id hv; exact ⟨_, _, by rw [← hn]; exact h⟩
  obtain ⟨_, hcc, hnc⟩ := hv.len
  have HL := Lib.hid hn
  have HV := Lib.hid hv
  clear hv hn
  go_enter Tryz.func48, Tryz.ntmps48
  go_wp2_with fail
  go_loopw [3] (fun i wr => ∃ k : Nat, i = .int .i64 k ∧ k ≤ n ∧ k ≤ 257 ∧ Hid (Upto2 l k) ∧ Hid (Below w.heap.size w wr)) (fun i _ => 257 - (intOf i).toNat)
  case atStart => exact ⟨0, rfl, Nat.zero_le _, by omega, Upto2.zero l, Below.refl _ _⟩
  case round =>
    obtain ⟨k, rfl, hk, hk7, HU, HB⟩ := hrel
    by_cases hlt : k < n ∧ k ≤ 256
    · obtain ⟨b, off, rfl, hb, hat⟩ := HV.out.at HL.out (by omega)
      have HAT := Lib.hid hat
      obtain ⟨a0, a1, a2, a3, a4⟩ := hat wr HB.out k hlt.1
      obtain ⟨q, hq⟩ : ∃ q, sAt l k = q := ⟨_, rfl⟩
      rw [hq] at a0 a1 a2 a3 a4
      have HQ := Lib.hid hq
      obtain ⟨x, y, z, s, d⟩ := q
      dsimp only at a0 a1 a2 a3 a4
      have i0' : (0 : Int) ≤ (k : Int) := by omega
      have i1' : (k : Int) < (n : Int) := by omega
      have i2' : (k : Int) ≤ 256 := by omega
      clear hat hq
      obtain ⟨g, hg⟩ : ∃ g, wr.heap.size = g := ⟨_, rfl⟩
      obtain ⟨W, hW⟩ : ∃ z0, wr.alloc (sO x y z s d) = z0 := ⟨_, rfl⟩
      have hal : Below wr.heap.size wr W := by rw [← hW]; exact (Below.refl _ wr).alloc (Nat.le_refl _) _
      have HGW : Hid (W.heap[g]? = some (sO x y z s d)) := by rw [← hW, ← hg]; exact World.alloc_heap_new wr _
      have HBW : Hid (Below w.heap.size w W) := HB.out.trans (hal.mono HB.out.size)
      have HV0 : Hid (Below W.heap.size W W) := Below.refl _ _
      have c0 := known_cell HGW.out 0 (v := .int .i64 x) rfl
      have c1 := known_cell HGW.out 1 (v := .int .i64 y) rfl
      have c2 := known_cell HGW.out 2 (v := .int .i64 z) rfl
      have c3 := known_cell HGW.out 3 (v := .int .i64 s) rfl
      have c4 := known_cell HGW.out 4 (v := .int .i64 d) rfl
      clear hal
      skip
      go_wp2_with fail
      refine (rin_any x 0 63 _).mono ?_
      rintro e V1 ⟨rfl, hb⟩
      have HV1 : Hid (Below W.heap.size W V1) := HV0.out.trans (hb.mono HV0.out.size)
      have HG1 := Lib.hid ((HV1.out.block g (Array.getElem?_eq_some_iff.1 HGW.out).1).trans HGW.out)
      clear hb c0 c1 c2 c3 c4
      have c0 := known_cell HG1.out 0 (v := .int .i64 x) rfl
      have c1 := known_cell HG1.out 1 (v := .int .i64 y) rfl
      have c2 := known_cell HG1.out 2 (v := .int .i64 z) rfl
      have c3 := known_cell HG1.out 3 (v := .int .i64 s) rfl
      have c4 := known_cell HG1.out 4 (v := .int .i64 d) rfl
      clear hW hg a0 a1 a2 a3 a4
      cases hx : (decide (0 ≤ x) && decide (x ≤ 63))
      · skip
        have HNT : Hid (¬ TableP l) := no_table (by rw [HL.out]; exact hlt.1) (by rw [HQ.out]; intro h; have h9 := hx; unfold inSg at h; dsimp only at h; rw [Bool.and_eq_false_iff, decide_eq_false_iff_not, decide_eq_false_iff_not] at h9; omega)
        have HBV : Hid (Below w.heap.size w V1) := HBW.out.trans (HV1.out.mono HBW.out.size)
        clear hx
        skip
        go_wp2
        go_ret
        exact ⟨false, rfl, tab_no HNT.out, HBV.out⟩
      · skip
        go_wp2_with fail
        refine (rin_any y 0 63 _).mono ?_
        rintro e V2 ⟨rfl, hb⟩
        have HV2 : Hid (Below W.heap.size W V2) := HV1.out.trans (hb.mono HV1.out.size)
        have HG2 := Lib.hid ((HV2.out.block g (Array.getElem?_eq_some_iff.1 HGW.out).1).trans HGW.out)
        clear hb c0 c1 c2 c3 c4
        have c0 := known_cell HG2.out 0 (v := .int .i64 x) rfl
        have c1 := known_cell HG2.out 1 (v := .int .i64 y) rfl
        have c2 := known_cell HG2.out 2 (v := .int .i64 z) rfl
        have c3 := known_cell HG2.out 3 (v := .int .i64 s) rfl
        have c4 := known_cell HG2.out 4 (v := .int .i64 d) rfl
        cases hy : (decide (0 ≤ y) && decide (y ≤ 63))
        · skip
          have HNT : Hid (¬ TableP l) := no_table (by rw [HL.out]; exact hlt.1) (by rw [HQ.out]; intro h; have h9 := hy; unfold inSg at h; dsimp only at h; rw [Bool.and_eq_false_iff, decide_eq_false_iff_not, decide_eq_false_iff_not] at h9; omega)
          have HBV : Hid (Below w.heap.size w V2) := HBW.out.trans (HV2.out.mono HBW.out.size)
          clear hy
          skip
          go_wp2
          go_ret
          exact ⟨false, rfl, tab_no HNT.out, HBV.out⟩
        · skip
          go_wp2_with fail
          refine (rin_any z 0 63 _).mono ?_
          rintro e V3 ⟨rfl, hb⟩
          have HV3 : Hid (Below W.heap.size W V3) := HV2.out.trans (hb.mono HV2.out.size)
          have HG3 := Lib.hid ((HV3.out.block g (Array.getElem?_eq_some_iff.1 HGW.out).1).trans HGW.out)
          clear hb c0 c1 c2 c3 c4
          have c0 := known_cell HG3.out 0 (v := .int .i64 x) rfl
          have c1 := known_cell HG3.out 1 (v := .int .i64 y) rfl
          have c2 := known_cell HG3.out 2 (v := .int .i64 z) rfl
          have c3 := known_cell HG3.out 3 (v := .int .i64 s) rfl
          have c4 := known_cell HG3.out 4 (v := .int .i64 d) rfl
          cases hz : (decide (0 ≤ z) && decide (z ≤ 63))
          · skip
            have HNT : Hid (¬ TableP l) := no_table (by rw [HL.out]; exact hlt.1) (by rw [HQ.out]; intro h; have h9 := hz; unfold inSg at h; dsimp only at h; rw [Bool.and_eq_false_iff, decide_eq_false_iff_not, decide_eq_false_iff_not] at h9; omega)
            have HBV : Hid (Below w.heap.size w V3) := HBW.out.trans (HV3.out.mono HBW.out.size)
            clear hz
            skip
            go_wp2
            go_ret
            exact ⟨false, rfl, tab_no HNT.out, HBV.out⟩
          · skip
            go_wp2_with fail
            refine (rin_any s 0 9 _).mono ?_
            rintro e V4 ⟨rfl, hb⟩
            have HV4 : Hid (Below W.heap.size W V4) := HV3.out.trans (hb.mono HV3.out.size)
            have HG4 := Lib.hid ((HV4.out.block g (Array.getElem?_eq_some_iff.1 HGW.out).1).trans HGW.out)
            clear hb c0 c1 c2 c3 c4
            have c0 := known_cell HG4.out 0 (v := .int .i64 x) rfl
            have c1 := known_cell HG4.out 1 (v := .int .i64 y) rfl
            have c2 := known_cell HG4.out 2 (v := .int .i64 z) rfl
            have c3 := known_cell HG4.out 3 (v := .int .i64 s) rfl
            have c4 := known_cell HG4.out 4 (v := .int .i64 d) rfl
            cases hs : (decide (0 ≤ s) && decide (s ≤ 9))
            · skip
              have HNT : Hid (¬ TableP l) := no_table (by rw [HL.out]; exact hlt.1) (by rw [HQ.out]; intro h; have h9 := hs; unfold inSg at h; dsimp only at h; rw [Bool.and_eq_false_iff, decide_eq_false_iff_not, decide_eq_false_iff_not] at h9; omega)
              have HBV : Hid (Below w.heap.size w V4) := HBW.out.trans (HV4.out.mono HBW.out.size)
              clear hs
              skip
              go_wp2
              go_ret
              exact ⟨false, rfl, tab_no HNT.out, HBV.out⟩
            · skip
              go_wp2_with fail
              refine (rin_any d 0 100000 _).mono ?_
              rintro e V5 ⟨rfl, hb⟩
              have HV5 : Hid (Below W.heap.size W V5) := HV4.out.trans (hb.mono HV4.out.size)
              have HG5 := Lib.hid ((HV5.out.block g (Array.getElem?_eq_some_iff.1 HGW.out).1).trans HGW.out)
              clear hb c0 c1 c2 c3 c4
              have c0 := known_cell HG5.out 0 (v := .int .i64 x) rfl
              have c1 := known_cell HG5.out 1 (v := .int .i64 y) rfl
              have c2 := known_cell HG5.out 2 (v := .int .i64 z) rfl
              have c3 := known_cell HG5.out 3 (v := .int .i64 s) rfl
              have c4 := known_cell HG5.out 4 (v := .int .i64 d) rfl
              cases hd : (decide (0 ≤ d) && decide (d ≤ 100000))
              · skip
                have HNT : Hid (¬ TableP l) := no_table (by rw [HL.out]; exact hlt.1) (by rw [HQ.out]; intro h; have h9 := hd; unfold inSg at h; dsimp only at h; rw [Bool.and_eq_false_iff, decide_eq_false_iff_not, decide_eq_false_iff_not] at h9; omega)
                have HBV : Hid (Below w.heap.size w V5) := HBW.out.trans (HV5.out.mono HBW.out.size)
                clear hd
                skip
                go_wp2
                go_ret
                exact ⟨false, rfl, tab_no HNT.out, HBV.out⟩
              · have HINS : Hid (inSg ⟨x, y, z, s, d⟩) := by
                  simp only [Bool.and_eq_true, decide_eq_true_eq] at hx hy hz hs hd
                  exact ⟨hx, hy, hz, hs, hd⟩
                clear hx hy hz hs hd c0 c1 c2 c3 c4
                go_wp2_with fail
                go_loopw [5] (fun i wr2 => ∃ j : Nat, i = .int .i64 j ∧ j ≤ k ∧ Hid (∀ i, i < j → ¬ clash (sAt l i) ⟨x, y, z, s, d⟩) ∧ Hid (Below W.heap.size W wr2)) (fun i _ => k - (intOf i).toNat)
                case atStart => exact ⟨0, rfl, Nat.zero_le _, fun i hi => by omega, HV5⟩
                case round =>
                  obtain ⟨j, rfl, hj, HNC, HV6⟩ := hrel
                  by_cases hjk : j < k
                  · obtain ⟨V, hVw⟩ : ∃ V, V = wr := ⟨_, rfl⟩
                    obtain ⟨e0, e1, e2, e3, e4⟩ := HAT.out wr (HBW.out.trans (HV6.out.mono HBW.out.size)) j (by omega)
                    obtain ⟨q, hq⟩ : ∃ q, sAt l j = q := ⟨_, rfl⟩
                    rw [hq] at e0 e1 e2 e3 e4
                    have HQ2 := Lib.hid hq
                    obtain ⟨ox, oy, oz, os, od⟩ := q
                    dsimp only at e0 e1 e2 e3 e4
                    have HG6 := Lib.hid ((HV6.out.block g (Array.getElem?_eq_some_iff.1 HGW.out).1).trans HGW.out)
                    obtain ⟨g2, hg2⟩ : ∃ z, wr.heap.size = z := ⟨_, rfl⟩
                    obtain ⟨W2, hW2⟩ : ∃ z, wr.alloc (sO ox oy oz os od) = z := ⟨_, rfl⟩
                    have hal : Below wr.heap.size wr W2 := by rw [← hW2]; exact (Below.refl _ wr).alloc (Nat.le_refl _) _
                    have HV7 : Hid (Below W.heap.size W W2) := HV6.out.trans (hal.mono HV6.out.size)
                    have h5 : W2.heap[g]? = some (sO x y z s d) := (hal.block g (Array.getElem?_eq_some_iff.1 HG6.out).1).trans HG6.out
                    have h6 : W2.heap[g2]? = some (sO ox oy oz os od) := by rw [← hW2, ← hg2]; exact World.alloc_heap_new wr _
                    have c0 := known_cell h5 0 (v := .int .i64 x) rfl
                    have c1 := known_cell h5 1 (v := .int .i64 y) rfl
                    have c2 := known_cell h5 2 (v := .int .i64 z) rfl
                    have c3 := known_cell h5 3 (v := .int .i64 s) rfl
                    have c4 := known_cell h5 4 (v := .int .i64 d) rfl
                    have d0 := known_cell h6 0 (v := .int .i64 ox) rfl
                    have d1 := known_cell h6 1 (v := .int .i64 oy) rfl
                    have d2 := known_cell h6 2 (v := .int .i64 oz) rfl
                    have d3 := known_cell h6 3 (v := .int .i64 os) rfl
                    have d4 := known_cell h6 4 (v := .int .i64 od) rfl
                    have j0' : (0 : Int) ≤ (j : Int) := by omega
                    have j1' : (j : Int) < (n : Int) := by omega
                    have j2' : (j : Int) < (k : Int) := by omega
                    clear hal h5 h6 hq hVw
                    by_cases hxx : x = ox
                    · have bx : (x == ox) = true := by rw [beq_iff_eq]; exact hxx
                      by_cases hyy : y = oy
                      · have by' : (y == oy) = true := by rw [beq_iff_eq]; exact hyy
                        by_cases hzz : z = oz
                        · have bz : (z == oz) = true := by rw [beq_iff_eq]; exact hzz
                          have HSM : Hid (sameS (⟨x, y, z, s, d⟩ : Sg) ⟨ox, oy, oz, os, od⟩) := ⟨hxx, hyy, hzz⟩
                          clear hxx hyy hzz
                          by_cases hss : s = os
                          · have bs : (s == os) = true := by rw [beq_iff_eq]; exact hss
                            have HCC : Hid (clash (⟨ox, oy, oz, os, od⟩ : Sg) ⟨x, y, z, s, d⟩) := ⟨HSM.out, .inl hss⟩
                            clear hss
                            skip
                            have HNT : Hid (¬ TableP l) := no_clash (k := k) (j := j) (by rw [HL.out]; exact hlt.1) hjk (by rw [HQ.out, HQ2.out]; exact HCC.out)
                            have HBV : Hid (Below w.heap.size w W2) := HBW.out.trans (HV7.out.mono HBW.out.size)
                            skip
                            go_wp2
                            go_ret
                            exact ⟨false, rfl, tab_no HNT.out, HBV.out⟩
                          · have bs : (s == os) = false := by rw [beq_eq_false_iff_ne]; exact hss
                            by_cases hgt : os < s
                            · have hnl : ¬ s < os := by omega
                              by_cases hdd : od < d
                              · have HCC : Hid (clash (⟨ox, oy, oz, os, od⟩ : Sg) ⟨x, y, z, s, d⟩) := ⟨HSM.out, .inr (.inl ⟨hgt, hdd⟩)⟩
                                clear hss
                                skip
                                have HNT : Hid (¬ TableP l) := no_clash (k := k) (j := j) (by rw [HL.out]; exact hlt.1) hjk (by rw [HQ.out, HQ2.out]; exact HCC.out)
                                have HBV : Hid (Below w.heap.size w W2) := HBW.out.trans (HV7.out.mono HBW.out.size)
                                skip
                                go_wp2
                                go_ret
                                exact ⟨false, rfl, tab_no HNT.out, HBV.out⟩
                              · have HNN : Hid (¬ clash (⟨ox, oy, oz, os, od⟩ : Sg) ⟨x, y, z, s, d⟩) := fun h => by
                                  rcases h.2 with h | h | h
                                  · exact hss h
                                  · exact hdd h.2
                                  · exact hnl h.1
                                clear hss
                                skip
                                have HN2 : Hid (∀ i, i < j + 1 → ¬ clash (sAt l i) ⟨x, y, z, s, d⟩) := fun i hi => by
                                  rcases Nat.lt_or_ge i j with h | h
                                  · exact HNC.out i h
                                  · obtain rfl : i = j := by omega
                                    rw [HQ2.out]
                                    exact HNN.out
                                clear HNN
                                go_wp2
                                go_roundw
                                case rel => exact ⟨j + 1, by go_num, by omega, HN2, HV7⟩
                                case measure => simp [intOf]; omega
                            · have hlt2 : s < os := by omega
                              by_cases hdd : d < od
                              · have HCC : Hid (clash (⟨ox, oy, oz, os, od⟩ : Sg) ⟨x, y, z, s, d⟩) := ⟨HSM.out, .inr (.inr ⟨hlt2, hdd⟩)⟩
                                clear hss
                                skip
                                have HNT : Hid (¬ TableP l) := no_clash (k := k) (j := j) (by rw [HL.out]; exact hlt.1) hjk (by rw [HQ.out, HQ2.out]; exact HCC.out)
                                have HBV : Hid (Below w.heap.size w W2) := HBW.out.trans (HV7.out.mono HBW.out.size)
                                skip
                                go_wp2
                                go_ret
                                exact ⟨false, rfl, tab_no HNT.out, HBV.out⟩
                              · have HNN : Hid (¬ clash (⟨ox, oy, oz, os, od⟩ : Sg) ⟨x, y, z, s, d⟩) := fun h => by
                                  rcases h.2 with h | h | h
                                  · exact hss h
                                  · exact hgt h.1
                                  · exact hdd h.2
                                clear hss
                                skip
                                have HN2 : Hid (∀ i, i < j + 1 → ¬ clash (sAt l i) ⟨x, y, z, s, d⟩) := fun i hi => by
                                  rcases Nat.lt_or_ge i j with h | h
                                  · exact HNC.out i h
                                  · obtain rfl : i = j := by omega
                                    rw [HQ2.out]
                                    exact HNN.out
                                clear HNN
                                go_wp2
                                go_roundw
                                case rel => exact ⟨j + 1, by go_num, by omega, HN2, HV7⟩
                                case measure => simp [intOf]; omega
                        · have bz : (z == oz) = false := by rw [beq_eq_false_iff_ne]; exact hzz
                          have HNN : Hid (¬ clash (⟨ox, oy, oz, os, od⟩ : Sg) ⟨x, y, z, s, d⟩) := fun h => hzz h.1.2.2
                          clear hxx hyy hzz
                          skip
                          have HN2 : Hid (∀ i, i < j + 1 → ¬ clash (sAt l i) ⟨x, y, z, s, d⟩) := fun i hi => by
                            rcases Nat.lt_or_ge i j with h | h
                            · exact HNC.out i h
                            · obtain rfl : i = j := by omega
                              rw [HQ2.out]
                              exact HNN.out
                          clear HNN
                          go_wp2
                          go_roundw
                          case rel => exact ⟨j + 1, by go_num, by omega, HN2, HV7⟩
                          case measure => simp [intOf]; omega
                      · have by' : (y == oy) = false := by rw [beq_eq_false_iff_ne]; exact hyy
                        have HNN : Hid (¬ clash (⟨ox, oy, oz, os, od⟩ : Sg) ⟨x, y, z, s, d⟩) := fun h => hyy h.1.2.1
                        clear hxx hyy
                        skip
                        have HN2 : Hid (∀ i, i < j + 1 → ¬ clash (sAt l i) ⟨x, y, z, s, d⟩) := fun i hi => by
                          rcases Nat.lt_or_ge i j with h | h
                          · exact HNC.out i h
                          · obtain rfl : i = j := by omega
                            rw [HQ2.out]
                            exact HNN.out
                        clear HNN
                        go_wp2
                        go_roundw
                        case rel => exact ⟨j + 1, by go_num, by omega, HN2, HV7⟩
                        case measure => simp [intOf]; omega
                    · have bx : (x == ox) = false := by rw [beq_eq_false_iff_ne]; exact hxx
                      have HNN : Hid (¬ clash (⟨ox, oy, oz, os, od⟩ : Sg) ⟨x, y, z, s, d⟩) := fun h => hxx h.1.1
                      clear hxx
                      skip
                      have HN2 : Hid (∀ i, i < j + 1 → ¬ clash (sAt l i) ⟨x, y, z, s, d⟩) := fun i hi => by
                        rcases Nat.lt_or_ge i j with h | h
                        · exact HNC.out i h
                        · obtain rfl : i = j := by omega
                          rw [HQ2.out]
                          exact HNN.out
                      clear HNN
                      go_wp2
                      go_roundw
                      case rel => exact ⟨j + 1, by go_num, by omega, HN2, HV7⟩
                      case measure => simp [intOf]; omega
                  · obtain rfl : j = k := by omega
                    have HUN : Hid (Upto2 l (j + 1)) := HU.out.succ (by rw [HQ.out]; exact HINS.out) (by rw [HQ.out]; exact HNC.out)
                    have HBV := Lib.hid (HBW.out.trans (HV6.out.mono HBW.out.size))
                    go_wp2
                    go_roundw
                    case rel => exact ⟨j + 1, by go_num, by omega, by omega, HUN, HBV⟩
                    case measure => simp [intOf]; omega
    · by_cases hkn : k < n
      · have h1 : ¬ (k : Int) ≤ 256 := by omega
        have h2 : (k : Int) < (n : Int) := by omega
        have h3 : ¬ (n : Int) ≤ 256 := by omega
        have HNT : Hid (¬ TableP l) := fun ht => by have := ht.1; rw [HL.out] at this; omega
        skip
        go_wp2
        go_ret
        exact ⟨false, rfl, tab_no HNT.out, HB.out⟩
      · obtain rfl : k = n := by omega
        have h2 : ¬ (k : Int) < (k : Int) := by omega
        by_cases h256 : k ≤ 256
        · have h3 : (k : Int) ≤ 256 := by omega
          have HTT : Hid (TableP l) := by
            have h := HU.out
            rw [← HL.out] at h
            exact h.table (by rw [HL.out]; omega)
          go_wp2
          go_ret
          exact ⟨true, rfl, ⟨fun _ => HTT.out, fun _ => rfl⟩, HB.out⟩
        · have h3 : ¬ (k : Int) ≤ 256 := by omega
          have HNT : Hid (¬ TableP l) := fun ht => by have := ht.1; rw [HL.out] at this; omega
          skip
          go_wp2
          go_ret
          exact ⟨false, rfl, tab_no HNT.out, HB.out⟩
set_option maxRecDepth 100000 in
theorem rcheckTable_any {v : Value} {l : List Sg} {w : World} (hv : SL w v l) : Calls Tryz.prog 18 #[v] w (RCheckT l w) := by
  have HC := Lib.hid (rtable_any hv)
  clear hv
  go_enter Tryz.func18, Tryz.ntmps18
  go_wp2_with fail
  refine HC.out.mono ?_
  rintro e w1 ⟨r, rfl, h, hb⟩
  have H := Lib.hid h
  have HB := Lib.hid hb
  clear h hb HC
  cases r
  · go_wp2
    go_ret
    exact ⟨2, rfl, .inr ⟨fun h => (by have := H.out.2 h; cases this), rfl⟩, HB.out⟩
  · go_wp2
    go_ret
    exact ⟨0, rfl, .inl ⟨by have h := H.out; simpa using h, rfl⟩, HB.out⟩
end Go.Proofs.YtcncdepjbhnknaaGreatDoor
/- The document's Width. -/
namespace Go.Proofs.YtcncdepjbhnknaaGreatDoor
open Go.RowKit Go.Shelf
attribute [local go_sem ↓] Go.wp_at_zero Go.wp_at_succ

/-- The best of the first k rows, or -1. -/
def BestS (l : List Sg) (sn ob li se : Int) (k : Nat) (b : Int) : Prop :=
  (b = -1 ∧ ∀ j, j < k → ¬ fitS (sAt l j) sn ob li se) ∨ ∃ m : Nat, b = (m : Int) ∧ m < k ∧ fitS (sAt l m) sn ob li se ∧ ∀ j, j < k → fitS (sAt l j) sn ob li se → (sAt l m).se ≤ (sAt l j).se
theorem BestS.zero (l : List Sg) (sn ob li se : Int) : BestS l sn ob li se 0 (-1) := .inl ⟨rfl, fun j h => by omega⟩
theorem BestS.pass {l : List Sg} {sn ob li se : Int} {k : Nat} {b : Int} (h : BestS l sn ob li se k b) (hn : ¬ fitS (sAt l k) sn ob li se) : BestS l sn ob li se (k + 1) b := by
  rcases h with ⟨h1, h2⟩ | ⟨m, h1, h2, h3, h4⟩
  · exact .inl ⟨h1, fun j hj => by
      rcases Nat.lt_or_ge j k with h | h
      · exact h2 j h
      · obtain rfl : j = k := by omega
        exact hn⟩
  · exact .inr ⟨m, h1, by omega, h3, fun j hj hf => by
      rcases Nat.lt_or_ge j k with h | h
      · exact h4 j h hf
      · obtain rfl : j = k := by omega
        exact absurd hf hn⟩
theorem BestS.first {l : List Sg} {sn ob li se : Int} {k : Nat} (h : BestS l sn ob li se k (-1)) (hf : fitS (sAt l k) sn ob li se) : BestS l sn ob li se (k + 1) (k : Int) := by
  rcases h with ⟨_, h2⟩ | ⟨m, h1, _⟩
  · exact .inr ⟨k, rfl, by omega, hf, fun j hj hj2 => by
      rcases Nat.lt_or_ge j k with h | h
      · exact absurd hj2 (h2 j h)
      · obtain rfl : j = k := by omega
        exact Int.le_refl _⟩
  · omega
theorem BestS.turn {l : List Sg} {sn ob li se : Int} {k m : Nat} (h : BestS l sn ob li se k (m : Int)) (hf : fitS (sAt l k) sn ob li se) :
    ((sAt l k).se < (sAt l m).se → BestS l sn ob li se (k + 1) (k : Int)) ∧ (¬ (sAt l k).se < (sAt l m).se → BestS l sn ob li se (k + 1) (m : Int)) := by
  rcases h with ⟨h1, _⟩ | ⟨m', h1, h2, h3, h4⟩
  · omega
  · obtain rfl : m = m' := by omega
    refine ⟨fun hlt => .inr ⟨k, rfl, by omega, hf, fun j hj hj2 => ?_⟩, fun hlt => .inr ⟨m, rfl, by omega, h3, fun j hj hj2 => ?_⟩⟩
    · rcases Nat.lt_or_ge j k with h | h
      · have := h4 j h hj2; omega
      · obtain rfl : j = k := by omega
        exact Int.le_refl _
    · rcases Nat.lt_or_ge j k with h | h
      · exact h4 j h hj2
      · obtain rfl : j = k := by omega
        omega
theorem BestS.nn {l : List Sg} {sn ob li se : Int} {k : Nat} {b : Int} (h : BestS l sn ob li se k b) : b = -1 ∨ ∃ m : Nat, b = m ∧ m < k := by
  rcases h with ⟨h1, _⟩ | ⟨m, h1, h2, _⟩
  · exact .inl h1
  · exact .inr ⟨m, h1, h2⟩
set_option maxRecDepth 100000 in
set_option maxHeartbeats 8000000 in
theorem rwidth_any {v : Value} {l : List Sg} {w : World} (hv : SL w v l) (sn ob li se : Int) :
    Calls Tryz.prog 16 #[v, .int .i64 sn, .int .i64 ob, .int .i64 li, .int .i64 se] w (WidthPost l sn ob li se w) := by
  obtain ⟨n, hn⟩ : ∃ n, l.length = n := ⟨_, rfl⟩
  obtain ⟨p, c, rfl⟩ : ∃ p c, v = .slice p n c := by obtain ⟨p, c, h, _⟩ := id hv; exact ⟨_, _, by rw [← hn]; exact h⟩
  obtain ⟨_, hcc, hnc⟩ := hv.len
  have HL := Lib.hid hn
  have HV := Lib.hid hv
  clear hv hn
  go_enter Tryz.func16, Tryz.ntmps16
  go_wp2_with fail
  refine (rtable_any HV.out).mono ?_
  rintro e w1 ⟨r, rfl, h, hb⟩
  have HR := Lib.hid h
  have HB1 := Lib.hid hb
  clear h hb
  cases r
  · have HA : Hid (WidthA l sn ob li se 0 2) := .inl ⟨fun h => (by have := HR.out.2 h; cases this), rfl, rfl⟩
    go_wp2
    exact bodyPost_ret (v := .tuple #[.int .i64 0, .int .i64 2]) (by simp [results, Tryz.f16, go_sem]) rfl ⟨0, 2, rfl, HA.out, HB1.out⟩
  have HTB := Lib.hid (HR.out.1 rfl)
  clear HR
  go_wp2_with fail
  go_loopw [13, 14] (fun vb i wr => ∃ (k : Nat) (b : Int), i = .int .i64 k ∧ vb = .int .i64 b ∧ k ≤ n ∧ Hid (BestS l sn ob li se k b) ∧ Hid (Below w.heap.size w wr)) (fun _ i _ => n - (intOf i).toNat)
  case atStart => exact ⟨0, -1, rfl, rfl, Nat.zero_le _, BestS.zero l sn ob li se, HB1⟩
  case round =>
    obtain ⟨k, b, rfl, rfl, hk, HBS, HB⟩ := hrel
    clear HB1
    by_cases hlt : k < n
    · obtain ⟨bl, off, rfl, hbl, hat⟩ := HV.out.at HL.out (by omega)
      have HAT := Lib.hid hat
      obtain ⟨a0, a1, a2, a3, a4⟩ := hat wr HB.out k hlt
      obtain ⟨q, hq⟩ : ∃ q, sAt l k = q := ⟨_, rfl⟩
      rw [hq] at a0 a1 a2 a3 a4
      have HQ := Lib.hid hq
      obtain ⟨x, y, z, s, d⟩ := q
      dsimp only at a0 a1 a2 a3 a4
      have i0' : (0 : Int) ≤ (k : Int) := by omega
      have i1' : (k : Int) < (n : Int) := by omega
      have HB2 : Hid (Below w.heap.size w (wr.alloc (sO x y z s d))) := HB.out.alloc HB.out.size _
      clear hat hq
      have hnn := HBS.out.nn
      by_cases hx : x = sn
      rotate_left
      · have bx : (x == sn) = false := by rw [beq_eq_false_iff_ne]; exact hx
        have HNF : Hid (¬ fitS (sAt l k) sn ob li se) := fun h => hx (by have := h.1; rw [HQ.out] at this; exact this)
        clear hx hnn
        skip
        have HBS2 := Lib.hid (HBS.out.pass HNF.out)
        clear HNF
        skip
        go_wp2
        go_quiet (fail)
        have HB3 : Hid (Below w.heap.size w ((wr.alloc (sO x y z s d)).drewN nq)) := ⟨HB2.out.os, HB2.out.tape, HB2.out.output, HB2.out.size, HB2.out.block⟩
        go_wp2
        go_roundw
        case rel => exact ⟨k + 1, b, by go_num, rfl, by omega, HBS2, HB3⟩
        case measure => simp [intOf]; omega
      have bx : (x == sn) = true := by rw [beq_iff_eq]; exact hx
      by_cases hy : y = ob
      rotate_left
      · have by' : (y == ob) = false := by rw [beq_eq_false_iff_ne]; exact hy
        have HNF : Hid (¬ fitS (sAt l k) sn ob li se) := fun h => hy (by have := h.2.1; rw [HQ.out] at this; exact this)
        clear hx hy hnn
        skip
        have HBS2 := Lib.hid (HBS.out.pass HNF.out)
        clear HNF
        skip
        go_wp2
        go_quiet (fail)
        have HB3 : Hid (Below w.heap.size w ((wr.alloc (sO x y z s d)).drewN nq)) := ⟨HB2.out.os, HB2.out.tape, HB2.out.output, HB2.out.size, HB2.out.block⟩
        go_wp2
        go_roundw
        case rel => exact ⟨k + 1, b, by go_num, rfl, by omega, HBS2, HB3⟩
        case measure => simp [intOf]; omega
      have by' : (y == ob) = true := by rw [beq_iff_eq]; exact hy
      by_cases hz : z = li
      rotate_left
      · have bz : (z == li) = false := by rw [beq_eq_false_iff_ne]; exact hz
        have HNF : Hid (¬ fitS (sAt l k) sn ob li se) := fun h => hz (by have := h.2.2.1; rw [HQ.out] at this; exact this)
        clear hx hy hz hnn
        skip
        have HBS2 := Lib.hid (HBS.out.pass HNF.out)
        clear HNF
        skip
        go_wp2
        go_quiet (fail)
        have HB3 : Hid (Below w.heap.size w ((wr.alloc (sO x y z s d)).drewN nq)) := ⟨HB2.out.os, HB2.out.tape, HB2.out.output, HB2.out.size, HB2.out.block⟩
        go_wp2
        go_roundw
        case rel => exact ⟨k + 1, b, by go_num, rfl, by omega, HBS2, HB3⟩
        case measure => simp [intOf]; omega
      have bz : (z == li) = true := by rw [beq_iff_eq]; exact hz
      by_cases hs : se ≤ s
      rotate_left
      · have HNF : Hid (¬ fitS (sAt l k) sn ob li se) := fun h => hs (by have := h.2.2.2; rw [HQ.out] at this; exact this)
        have hsd : decide (se ≤ s) = false := decide_eq_false hs
        clear hx hy hz hnn
        skip
        have HBS2 := Lib.hid (HBS.out.pass HNF.out)
        clear HNF
        skip
        go_wp2
        go_quiet (fail)
        have HB3 : Hid (Below w.heap.size w ((wr.alloc (sO x y z s d)).drewN nq)) := ⟨HB2.out.os, HB2.out.tape, HB2.out.output, HB2.out.size, HB2.out.block⟩
        go_wp2
        go_roundw
        case rel => exact ⟨k + 1, b, by go_num, rfl, by omega, HBS2, HB3⟩
        case measure => simp [intOf]; omega
      have HF : Hid (fitS (sAt l k) sn ob li se) := by rw [HQ.out]; exact ⟨hx, hy, hz, hs⟩
      clear hx hy hz
      rcases hnn with rfl | ⟨m, rfl, hmk⟩
      · have HBS2 := Lib.hid (HBS.out.first HF.out)
        skip
        go_wp2
        go_quiet (fail)
        have HB3 : Hid (Below w.heap.size w ((wr.alloc (sO x y z s d)).drewN nq)) := ⟨HB2.out.os, HB2.out.tape, HB2.out.output, HB2.out.size, HB2.out.block⟩
        go_wp2
        go_roundw
        case rel => exact ⟨k + 1, k, by go_num, rfl, by omega, HBS2, HB3⟩
        case measure => simp [intOf]; omega
      · obtain ⟨t1, t2⟩ := HBS.out.turn HF.out
        obtain ⟨b0, b1, b2, b3, b4⟩ := HAT.out _ HB2.out m (by omega)
        rw [HQ.out] at t1 t2
        obtain ⟨u, hu⟩ : ∃ u, (sAt l m).se = u := ⟨_, rfl⟩
        rw [hu] at b3 t1 t2
        dsimp only at t1 t2
        have m0' : (0 : Int) ≤ (m : Int) := by omega
        have m1' : (m : Int) < (n : Int) := by omega
        have mn' : ¬ (m : Int) < 0 := by omega
        clear b0 b1 b2 b4 hu
        by_cases hlt2 : s < u
        · have HBS2 := Lib.hid (t1 hlt2)
          clear t1 t2
          skip
          go_wp2
          go_quiet (fail)
          have HB3 : Hid (Below w.heap.size w ((wr.alloc (sO x y z s d)).drewN nq)) := ⟨HB2.out.os, HB2.out.tape, HB2.out.output, HB2.out.size, HB2.out.block⟩
          go_wp2
          go_roundw
          case rel => exact ⟨k + 1, k, by go_num, rfl, by omega, HBS2, HB3⟩
          case measure => simp [intOf]; omega
        · have HBS2 := Lib.hid (t2 hlt2)
          clear t1 t2
          skip
          go_wp2
          go_quiet (fail)
          have HB3 : Hid (Below w.heap.size w ((wr.alloc (sO x y z s d)).drewN nq)) := ⟨HB2.out.os, HB2.out.tape, HB2.out.output, HB2.out.size, HB2.out.block⟩
          go_wp2
          go_roundw
          case rel => exact ⟨k + 1, m, by go_num, rfl, by omega, HBS2, HB3⟩
          case measure => simp [intOf]; omega
    · have hkn : k = n := by omega
      have HBN : Hid (BestS l sn ob li se l.length b) := by rw [HL.out, ← hkn]; exact HBS.out
      have hnn := HBS.out.nn
      clear hkn
      rcases hnn with rfl | ⟨m, rfl, hmk⟩
      · have HA : Hid (WidthA l sn ob li se 0 7) := by
          rcases HBN.out with ⟨_, h2⟩ | ⟨m, h1, _⟩
          · exact .inr (.inl ⟨HTB.out, h2, rfl, rfl⟩)
          · omega
        go_wp2
        exact bodyPost_ret (v := .tuple #[.int .i64 0, .int .i64 7]) (by simp [results, Tryz.f16, go_sem]) rfl ⟨0, 7, rfl, HA.out, HB.out⟩
      · obtain ⟨bl, off, rfl, hbl, hat⟩ := HV.out.at HL.out (by omega)
        obtain ⟨a0, a1, a2, a3, a4⟩ := hat wr HB.out m (by omega)
        obtain ⟨d, hd⟩ : ∃ d, (sAt l m).wi = d := ⟨_, rfl⟩
        rw [hd] at a4
        have HA : Hid (WidthA l sn ob li se d 0) := by
          rcases HBN.out with ⟨h1, _⟩ | ⟨m', h1, h2, h3, h4⟩
          · omega
          · obtain rfl : m = m' := by omega
            exact .inr (.inr ⟨HTB.out, m, h2, h3, h4, hd.symm, rfl⟩)
        have m0' : (0 : Int) ≤ (m : Int) := by omega
        have m1' : (m : Int) < (n : Int) := by omega
        have mn' : ¬ (m : Int) < 0 := by omega
        clear hat hd a0 a1 a2 a3
        go_wp2
        exact bodyPost_ret (v := .tuple #[.int .i64 d, .int .i64 0]) (by simp [results, Tryz.f16, go_sem]) rfl ⟨d, 0, rfl, HA.out, HB.out⟩
end Go.Proofs.YtcncdepjbhnknaaGreatDoor
/- append of a whole slice, whatever it is, onto a row of the call's own. -/
namespace Go.Proofs.YtcncdepjbhnknaaGreatDoor
open Go.RowKit Go.Shelf

/-- The cells of a slice's elements. -/
def SrcL (w : World) (v : Value) (m : Nat) (cs : List Value) : Prop :=
  (v = .slice none 0 0 ∧ m = 0 ∧ cs = []) ∨ ∃ ad c, v = .slice (some ad) m c ∧ ∀ (j : Nat) (u : Value), cs[j]? = some u → w.cell? (ad.add j) = some u
theorem wpList_append_src {P : Program} {w : World} {ops : Array Oper} {rest : List Oper} {o : Oper} {a : Act} {Q : Exit → Act → World → Prop} (hgd : o.guard = none) (s x : Operand) (t : TypeId)
    (ho : o.op = .call { callee := .builtin .append, args := #[s, x], argTypes := #[t, t] })
    (base : Nat) (e : TypeId) (i : TypeInfo) (z : Value) (size bytes : Nat) (ht : P.underlying t = some (.slice e)) (hi : P.info? e = some i) (hz : i.zero = some z)
    (hsize : i.size = size) (hby : i.bytes = bytes) (hzs : z.cells.size = size) (hsz : 0 < size)
    (v : Value) (n : Nat) (xs : List Value) (hs : a.eval s = v) (hown : w.ownsRow base e size v n xs)
    (v2 : Value) (m : Nat) (cs : List Value) (hx : a.eval x = v2) (hsrc : SrcL w v2 m cs) (hl : cs.length = m * size) (h1 : ∀ u ∈ cs, u.oneCell' = true)
    (h63 : n + m ≤ maxLen) (hbytes : (n + m) * bytes ≤ 140737488355328) (hbase : base ≤ w.heap.size)
    (h : ∀ v' w', w'.ownsRow base e size v' (n + m) (xs ++ cs) → w.grownBy w' v.ownBlock → wpList P ops Q rest (a.put o.dst v') w') : wpList P ops Q (o :: rest) a w := by
  rcases hsrc with ⟨rfl, rfl, rfl⟩ | ⟨ad, c, rfl, hat⟩
  · exact wpList_append_own_none hgd s x t ho base e i size ht hi v n xs hs hown hx (h v w (by simpa using hown) ⟨rfl, rfl, rfl, Nat.le_refl _, fun _ _ _ => rfl⟩)
  · exact wpList_append_own w hgd s x t ho base e i z size bytes ht hi hz hsize hby hzs hsz v n xs hs hown ad m c cs hx hl hat h1 h63 hbytes hbase fun v' w' h2 h3 _ => h v' w' h2 h3
theorem pcells_one : ∀ (ps : List PP), ∀ u ∈ pcells ps, u.oneCell' = true
  | [], u, h => by cases h
  | p :: ps, u, h => by
    rcases List.mem_cons.1 h with rfl | h
    · rfl
    · rcases List.mem_cons.1 h with rfl | h
      · rfl
      · exact pcells_one ps u h
theorem scells_one : ∀ (l : List Sg), ∀ u ∈ scells l, u.oneCell' = true
  | [], u, h => by cases h
  | p :: l, u, h => by
    simp only [scells, List.mem_cons] at h
    rcases h with rfl | rfl | rfl | rfl | rfl | h
    · rfl
    · rfl
    · rfl
    · rfl
    · rfl
    · exact scells_one l u h
/-- Every k-th element's cells, one by one. -/
theorem cells_by {w : World} {b off k m : Nat} {cs : List Value} (hk : 0 < k) (hl : cs.length = m * k) (h : ∀ q, q < m → ∀ r, r < k → w.cell? ⟨b, off + q * k + r, none⟩ = cs[q * k + r]?) :
    ∀ (j : Nat) (u : Value), cs[j]? = some u → w.cell? ((⟨b, off, none⟩ : Addr).add j) = some u := fun j u hu => by
  have hj : j < m * k := by
    rw [← hl]
    rcases Nat.lt_or_ge j cs.length with h' | h'
    · exact h'
    · rw [List.getElem?_eq_none h'] at hu; cases hu
  have h1 := h (j / k) (Nat.div_lt_of_lt_mul (by rw [Nat.mul_comm]; exact hj)) (j % k) (Nat.mod_lt _ hk)
  have e : j / k * k + j % k = j := by rw [Nat.mul_comm]; exact Nat.div_add_mod j k
  rw [Nat.add_assoc, e] at h1
  rw [add_lit', h1]
  exact hu
theorem PL.src {w : World} {v : Value} {ps : List PP} (h : PL w v ps) (hf : PForm v) : SrcL w v ps.length (pcells ps) := by
  obtain ⟨p, cap, rfl, h1, h2, h3⟩ := h
  rcases hf with hf | ⟨ad, m, c, hf⟩
  · injection hf with e1 e2 e3
    obtain rfl : ps = [] := List.eq_nil_of_length_eq_zero e2
    subst e1; subst e3
    exact .inl ⟨rfl, rfl, rfl⟩
  · injection hf with e1 e2 e3
    subst e1
    refine .inr ⟨ad, cap, rfl, ?_⟩
    by_cases hn : ps = []
    · subst hn
      exact fun j u hu => by simp [pcells] at hu
    · obtain ⟨b, off, hb, _, hat⟩ := h3 hn
      obtain rfl := Option.some.inj hb
      refine cells_by (k := 2) (m := ps.length) (by decide) (pcells_length ps) fun q hq r hr => ?_
      obtain ⟨a1, a2⟩ := hat q hq
      obtain ⟨b1, b2⟩ := pcells_at ps q hq
      match r, hr with
      | 0, _ => rw [Nat.add_zero, Nat.add_zero, a1, b1]
      | 1, _ => rw [a2, b2]
theorem SL.src {w : World} {v : Value} {l : List Sg} (h : SL w v l) (hf : PForm v) : SrcL w v l.length (scells l) := by
  obtain ⟨p, cap, rfl, h1, h2, h3⟩ := h
  rcases hf with hf | ⟨ad, m, c, hf⟩
  · injection hf with e1 e2 e3
    obtain rfl : l = [] := List.eq_nil_of_length_eq_zero e2
    subst e1; subst e3
    exact .inl ⟨rfl, rfl, rfl⟩
  · injection hf with e1 e2 e3
    subst e1
    refine .inr ⟨ad, cap, rfl, ?_⟩
    by_cases hn : l = []
    · subst hn
      exact fun j u hu => by simp [scells] at hu
    · obtain ⟨b, off, hb, _, hat⟩ := h3 hn
      obtain rfl := Option.some.inj hb
      refine cells_by (k := 5) (m := l.length) (by decide) (scells_length l) fun q hq r hr => ?_
      obtain ⟨a0, a1, a2, a3, a4⟩ := hat q hq
      obtain ⟨b0, b1, b2, b3, b4⟩ := scells_at l q hq
      rw [sAt_get hq] at b0 b1 b2 b3 b4
      match r, hr with
      | 0, _ => rw [Nat.add_zero, Nat.add_zero, a0, b0]
      | 1, _ => rw [a1, b1]
      | 2, _ => rw [a2, b2]
      | 3, _ => rw [a3, b3]
      | 4, _ => rw [a4, b4]
theorem SrcL.after {w w' : World} {v : Value} {m : Nat} {cs : List Value} (h : SrcL w v m cs) (hb : Below w.heap.size w w') : SrcL w' v m cs := by
  rcases h with h | ⟨ad, c, rfl, hat⟩
  · exact .inl h
  · refine .inr ⟨ad, c, rfl, fun j u hu => ?_⟩
    have h1 := hat j u hu
    exact (hb.cell (World.block_lt_of_cell? _ _ h1)).trans h1
end Go.Proofs.YtcncdepjbhnknaaGreatDoor
/- DetectWidths' walk. -/
namespace Go.Proofs.YtcncdepjbhnknaaGreatDoor
open Go.RowKit Go.Shelf
attribute [local go_sem ↓] Go.wp_at_zero Go.wp_at_succ
theorem SL.elem {w : World} {p : Option Addr} {n c : Nat} {l : List Sg} (h : SL w (.slice p n c) l) (hn : l.length = n) (h0 : 0 < n) :
    ∃ b off, p = some ⟨b, off, none⟩ ∧ ∀ W, Below w.heap.size w W → ∀ k, k < n →
      W.cell? ⟨b, off + k * 5, none⟩ = some (.int .i64 (sAt l k).sn) ∧ W.cell? ⟨b, off + k * 5 + 1, none⟩ = some (.int .i64 (sAt l k).ob) ∧ W.cell? ⟨b, off + k * 5 + 2, none⟩ = some (.int .i64 (sAt l k).li) ∧
        W.cell? ⟨b, off + k * 5 + 3, none⟩ = some (.int .i64 (sAt l k).se) ∧ W.cell? ⟨b, off + k * 5 + 4, none⟩ = some (.int .i64 (sAt l k).wi) := by
  obtain ⟨b, off, h1, _, h2⟩ := h.at hn h0
  exact ⟨b, off, h1, h2⟩
set_option maxRecDepth 100000 in
set_option maxHeartbeats 8000000 in
theorem widths_law {v : Value} {l : List Sg} {w : World} (hv : SL w v l) (hf : PForm v) (sn ob li se : Int) (hD : DetV w) (hT : Tabs w) :
    Calls Tryz.prog 3 #[v, .int .i64 sn, .int .i64 ob, .int .i64 li, .int .i64 se] w (BoolPost w true) := by
  obtain ⟨m, hm⟩ : ∃ n, l.length = n := ⟨_, rfl⟩
  obtain ⟨p, c, rfl⟩ : ∃ p c, v = .slice p m c := by obtain ⟨p, c, h, _⟩ := id hv; exact ⟨_, _, by rw [← hm]; exact h⟩
  obtain ⟨_, hmc2, hmc1⟩ := hv.len
  have HV := Lib.hid hv
  have HFM := Lib.hid hf
  have HM := Lib.hid hm
  have HT := Lib.hid hT
  have HD := Lib.hid hD
  clear hv hT hD hf hm
  obtain ⟨i0, hi, hz0, hz1, hz2⟩ := info_parts info_sight
  have HE0 := Lib.hid (Env.start w)
  by_cases h270 : (270 : Int) < (m : Int)
  · go_enter Tryz.func3, Tryz.ntmps3
    skip
    go_wp2_with fail
    skip
    have HEC := HE0
    refine (alive_any _ (HD.out.below HEC.out.base (Nat.le_refl _)) (HT.out.below HEC.out.base (Nat.le_refl _))).mono ?_
    rintro e w1 ⟨rfl, hb⟩
    have HE1 := Lib.hid (HE0.out.step hb)
    clear hb HEC
    go_wp2
    go_ret
    exact ⟨rfl, HE1.out.base⟩
  have hl2 : m ≤ 270 := by omega
  have HL2 := Lib.hid hl2
  have hsr : SrcL w (.slice p m c) m (scells l) := by
    have h := HV.out.src HFM.out
    rwa [HM.out] at h
  have HSR := Lib.hid hsr
  clear hsr hl2
  go_enter Tryz.func3, Tryz.ntmps3
  skip
  -- own := append([]T{}, src..): w1 the world, HB: Below w1 from where src is known
  have al := (Below.refl w.heap.size w).alloc (Nat.le_refl _) (.cells #[] 30)
  have hown0 : (w.alloc (.cells #[] 30)).ownsRow w.heap.size 30 5 (.slice (some ⟨w.heap.size, 0, none⟩) 0 0) 0 [] := World.ownsRow_lit w #[] 0 (Nat.le_refl _) (by simp [maxLen]) rfl
  have hsrc := (HSR.out).after al
  have hz3 : w.heap.size ≤ (w.alloc (.cells #[] 30)).heap.size := al.size
  have hm1 : 0 + m ≤ maxLen := by have := HL2.out; unfold maxLen; omega
  have hm2 : (0 + m) * 40 ≤ 140737488355328 := by have := HL2.out; omega
  go_wp2_with (at_builtin; go_loud (refine wpList_append_src rfl _ _ 22 rfl w.heap.size 30 i0 (.agg #[.int .i64 0, .int .i64 0, .int .i64 0, .int .i64 0, .int .i64 0]) 5 40 Tryz.underlying22 hi hz0 hz1 hz2 rfl (by decide) _ 0 [] rfl hown0 _ m (scells l) rfl hsrc (by rw [scells_length, HM.out]) (scells_one l) hm1 hm2 hz3 ?_); intro vo w3 hOwn hgrow)
  have HBO : Hid (Below w.heap.size w w3) := ((Below.refl w.heap.size w).alloc (Nat.le_refl _) (.cells #[] 30)).grown hgrow (by simp) (fun z hz => by have := (World.ownsRow.lt hown0 z hz).1; exact this)
  simp only [Nat.zero_add, List.nil_append] at hOwn
  clear al hown0 hsrc hz3 hm1 hm2 hgrow
  have HOW : Hid (SL w3 vo l) := by
    have h : OwnS w3 w.heap.size vo l := by unfold OwnS; rw [HM.out]; exact hOwn
    exact h.sl
  have HE3 := Lib.hid (HE0.out.step HBO.out)
  have HV2w := Lib.hid (HV.out.after HE3.out.base (Nat.le_refl _))
  clear hOwn HSR HE0 HBO
  obtain ⟨po, co, rfl⟩ : ∃ p c, vo = .slice p m c := by obtain ⟨p, c, h, _⟩ := id HOW.out; exact ⟨_, _, by rw [← HM.out]; exact h⟩
  go_wp2_with fail
  refine (dWidth_any HOW.out sn ob li se).mono ?_
  rintro e w4 ⟨a1, n1, rfl, hA1, hb⟩
  have HE4 := Lib.hid (HE3.out.step hb)
  have HX4 := Lib.hid hb
  have HA1 := Lib.hid hA1
  clear hb hA1 HE3
  go_wp2_with fail
  refine (rwidth_any (HV.out.after HE4.out.base (Nat.le_refl _)) sn ob li se).mono ?_
  rintro e w5 ⟨a2, n2, rfl, hA2, hb⟩
  obtain ⟨rfl, rfl⟩ := HA1.out.det hA2
  have HE6 := Lib.hid (HE4.out.step hb)
  have HX6 : Hid (Below w3.heap.size w3 w5) := HX4.out.trans (hb.mono HX4.out.size)
  clear hA2 hb HE4 HA1 HX4
  go_wp2_with fail
  go_loopw [44] (fun i wr => ∃ k : Nat, i = .int .i64 k ∧ k ≤ m ∧ Hid (Env w.heap.size w [] [] wr) ∧ Hid (Below w3.heap.size w3 wr)) (fun i _ => m - (intOf i).toNat)
  case atStart => exact ⟨0, rfl, Nat.zero_le _, HE6, HX6⟩
  case round =>
    obtain ⟨k, rfl, hk, HE, HX⟩ := hrel
    clear HE6 HX6
    by_cases hlt : k < m
    · obtain ⟨b1, o1, rfl, hat1⟩ := HOW.out.elem HM.out (by omega)
      obtain ⟨b2, o2, rfl, hat2⟩ := HV2w.out.elem HM.out (by omega)
      have hf1 := fun V hV => hat1 V hV k hlt
      have hf2 := fun V hV => hat2 V hV k hlt
      obtain ⟨z, hz⟩ : ∃ z, sAt l k = z := ⟨_, rfl⟩
      rw [hz] at hf1 hf2
      obtain ⟨x, y, z, s, d⟩ := z
      dsimp only at hf1 hf2
      have HF1 := Lib.hid hf1
      have HF2 := Lib.hid hf2
      have i0' : (0 : Int) ≤ (k : Int) := by omega
      have i1' : (k : Int) < (m : Int) := by omega
      clear hat1 hat2 hf1 hf2 hz
      go_wp2_with fail
      refine tsteps_plain [(true, 0), (true, 1), (true, 2), (true, 3), (true, 4), (true, 5), (true, 6), (true, 7), (true, 8)] (fun V => Env w.heap.size w [] [] V ∧ Below w3.heap.size w3 V) (fun _ => false)
        (by kernel_rfl) (by kernel_rfl) (by kernel_rfl) (fun _ _ => rfl) (fun _ _ o _ _ h => by cases o <;> exact h) ⟨HE.out.drew, HX.out.drew⟩ ?_
      have HE7 := Lib.hid HE.out.drew
      have HX7 := Lib.hid HX.out.drew
      skip
      iterate 8
        refine steps_read _ rfl rfl (fun w' hS => by obtain ⟨a0, a1, a2, a3, a4⟩ := HF1.out w' hS.2; obtain ⟨c0, c1, c2, c3, c4⟩ := HF2.out w' hS.2; go_simp; first | rfl | (rw [if_pos (by omega)])) ?_
        simp only [List.getElem_toArray, List.getElem_cons_succ, List.getElem_cons_zero, Act.put, List.setIfInBounds_toArray, List.set_cons_zero, List.set_cons_succ]
      refine steps_read (.bool false) rfl rfl (fun w' hS => by skip; go_simp; first|done|simp) ?_
      simp only [List.getElem_toArray, List.getElem_cons_succ, List.getElem_cons_zero, Act.put, List.setIfInBounds_toArray, List.set_cons_zero, List.set_cons_succ]
      refine steps_end ?_
      go_wp2
      go_roundw
      case rel => exact ⟨k + 1, by go_num, by omega, HE7, HX7⟩
      case measure => simp [intOf]; omega
    · have HE9 := HE
      go_wp2_with fail
      refine (checkTable_any (HV.out.after HE9.out.base (Nat.le_refl _))).mono ?_
      rintro e w10 ⟨q1, rfl, hq1, hb⟩
      have HE10 := Lib.hid (HE9.out.step hb)
      have HQ1 := Lib.hid hq1
      clear hb hq1
      go_wp2_with fail
      refine (rcheckTable_any (HV.out.after HE10.out.base (Nat.le_refl _))).mono ?_
      rintro e w11 ⟨q2, rfl, hq2, hb⟩
      obtain rfl : q1 = q2 := by
        rcases HQ1.out with ⟨h1, rfl⟩ | ⟨h1, rfl⟩ <;> rcases hq2 with ⟨h2, rfl⟩ | ⟨h2, rfl⟩
        · rfl
        · exact absurd h1 h2
        · exact absurd h2 h1
        · rfl
      have HE11 := Lib.hid (HE10.out.step hb)
      clear hq2 hb HQ1
      skip
      go_wp2_with fail
      skip
      have HEC := HE11
      refine (alive_any _ (HD.out.below HEC.out.base (Nat.le_refl _)) (HT.out.below HEC.out.base (Nat.le_refl _))).mono ?_
      rintro e w12 ⟨rfl, hb⟩
      have HE12 := Lib.hid (HE11.out.step hb)
      clear hb HEC
      go_wp2
      go_ret
      exact ⟨rfl, HE12.out.base⟩
end Go.Proofs.YtcncdepjbhnknaaGreatDoor
/- What form a slice has that came as an argument. -/
namespace Go.Proofs.YtcncdepjbhnknaaGreatDoor
open Go.ChangeShapes Go.WideShapes Go.ChangeAt Go.RowKit

set_option maxRecDepth 100000 in
theorem sight_form {H : Type} {enc : TypeId × Value → H} {W : World} {base b0 : Nat} {sp : Nat → Bool} {held : Bool} {v : Value} {d : DataW H} {p : List MemPlace} (hv : Value.okWide Tryz.prog W .any b0 22 v)
    (h : DataW.Trod enc Tryz.prog W base sp held 22 v d p) : PForm v := by
  obtain ⟨a0, len, cap, rfl⟩ := okWide_slice Tryz.underlying22 hv
  obtain ⟨fuel, hf⟩ := h
  rcases Deep.open_slice Tryz.underlying22 hf with ⟨hcs, _⟩ | ⟨a, len', cap', m, n, D, Pl, hcs, _⟩
  · simp only [Value.cells, List.cons.injEq, Value.slice.injEq, and_true] at hcs
    obtain ⟨rfl, rfl, rfl⟩ := hcs
    exact .inl rfl
  · simp only [Value.cells, List.cons.injEq, Value.slice.injEq, and_true] at hcs
    obtain ⟨rfl, rfl, rfl⟩ := hcs
    exact .inr ⟨_, _, _, rfl⟩
set_option maxRecDepth 100000 in
theorem parts_form {H : Type} {enc : TypeId × Value → H} {W : World} {base b0 : Nat} {sp : Nat → Bool} {held : Bool} {v : Value} {d : DataW H} {p : List MemPlace} (hv : Value.okWide Tryz.prog W .any b0 67 v)
    (h : DataW.Trod enc Tryz.prog W base sp held 67 v d p) : PForm v := by
  obtain ⟨a0, len, cap, rfl⟩ := okWide_slice Tryz.underlying67 hv
  obtain ⟨fuel, hf⟩ := h
  rcases Deep.open_slice Tryz.underlying67 hf with ⟨hcs, _⟩ | ⟨a, len', cap', m, n, D, Pl, hcs, _⟩
  · simp only [Value.cells, List.cons.injEq, Value.slice.injEq, and_true] at hcs
    obtain ⟨rfl, rfl, rfl⟩ := hcs
    exact .inl rfl
  · simp only [Value.cells, List.cons.injEq, Value.slice.injEq, and_true] at hcs
    obtain ⟨rfl, rfl, rfl⟩ := hcs
    exact .inr ⟨_, _, _, rfl⟩
end Go.Proofs.YtcncdepjbhnknaaGreatDoor
/- DetectWidths: for every list of sights and all integers the law returns true and each argument reads behind the call as it read before: the row without its closed facts. Conditions: the package-level variables that the row lists start as the text of the program lays them (the tie is given, over the pruned copy); the row is unfollowed and recurses. -/
namespace Go.Proofs.YtcncdepjbhnknaaGreatDoor
open Go.ChangeShapes Go.WideShapes Go.ChangeAt Go.RowKit

set_option maxRecDepth 100000 in
theorem widths_lifted (os : Os) (started : os.Started) (H : Type) (enc : TypeId × Value → H) :
    ReturnsInHanded {} Tryz.checked os 3 .any (fun w args => (Rows.detectWidthsSpec.pre enc Tryz.prog Tryz.f3 Rows.detectWidthsRow.domain false w args ∧ laidMetH Tryz.prog laid9 w) ∧ sizedMet enc Tryz.prog Tryz.f3 (OpenSpec.ofChange Rows.detectWidthsSpec) false w args)
      (Rows.detectWidthsSpec.post enc Tryz.prog Tryz.f3 false true false false) := by
  refine returnsInHanded_of_change_and (C := Tryz.checked) (X := fun w _ => laidMetH Tryz.prog laid9 w) (fun _ _ _ hh h => h.of_heap hh) own_seat started (by kernel_rfl) Tryz.func3
    (ChangeSpec.witness_shaped (enc := enc) (C := Tryz.checked) (os := os) (X := fun w _ => laidMetH Tryz.prog laid9 w) false (World.laidAll Tryz.prog os laid9) #[.slice none 0 0, .int .i64 0, .int .i64 0, .int .i64 0, .int .i64 0] 8 (World.laidAll_os _ _ _)
      (World.shaped_of_ZipB (by kernel_rfl) (by kernel_rfl)) (by kernel_rfl) (by kernel_rfl) (by kernel_rfl) (met9 os _)) ?_
  intro W base args ds gs before hval0 hW hc _ hL _
  have hval : ∀ (j : Nat) t v, Tryz.f3.params[j]? = some t → args[j]? = some v → Value.okWide Tryz.prog W .any base t v := hval0
  have hW' := hW
  obtain ⟨p, q, hA0, hV, rfl, _, _⟩ := hW
  have hA : DataW.TrodAll enc Tryz.prog W 0 (fun _ => true) true Tryz.f3.params.toList args.toList ds p := hA0
  rw [Tryz.params3] at hA hval
  obtain ⟨v0, v1, v2, v3, v4, d0, d1, d2, d3, d4, p0, p1, p2, p3, p4, rfl, rfl, rfl, h0, h1, h2, h3, h4⟩ := trodAll_five hA
  obtain ⟨rfl, rfl⟩ := trodVars_none hV
  obtain ⟨l0, hl0⟩ := open_sights (hval 0 _ v0 rfl rfl) h0
  obtain ⟨a1, rfl, rfl, rfl, wa1⟩ := open_int Tryz.underlying3 (hval 1 _ v1 rfl rfl) h1
  have ha1 : -9223372036854775808 ≤ a1 ∧ a1 ≤ 9223372036854775807 := by simpa [Lit.wf, IntKind.min, IntKind.max, IntKind.signed, IntKind.bits] using wa1
  obtain ⟨a2, rfl, rfl, rfl, wa2⟩ := open_int Tryz.underlying3 (hval 2 _ v2 rfl rfl) h2
  have ha2 : -9223372036854775808 ≤ a2 ∧ a2 ≤ 9223372036854775807 := by simpa [Lit.wf, IntKind.min, IntKind.max, IntKind.signed, IntKind.bits] using wa2
  obtain ⟨a3, rfl, rfl, rfl, wa3⟩ := open_int Tryz.underlying3 (hval 3 _ v3 rfl rfl) h3
  have ha3 : -9223372036854775808 ≤ a3 ∧ a3 ≤ 9223372036854775807 := by simpa [Lit.wf, IntKind.min, IntKind.max, IntKind.signed, IntKind.bits] using wa3
  obtain ⟨a4, rfl, rfl, rfl, wa4⟩ := open_int Tryz.underlying3 (hval 4 _ v4 rfl rfl) h4
  have ha4 : -9223372036854775808 ≤ a4 ∧ a4 ≤ 9223372036854775807 := by simpa [Lit.wf, IntKind.min, IntKind.max, IntKind.signed, IntKind.bits] using wa4
  have hf0 := sight_form (hval 0 _ v0 rfl rfl) h0
  clear hA0 hval0
  simp only [List.append_nil] at hW'
  refine (widths_law hl0 hf0 a1 a2 a3 a4 (detV_of_laid9 hL) (tabs_of_laid9 hL)).mono fun e W' ⟨he, bel⟩ => ?_
  subst he
  have nx : ∀ x ∈ ([] : List MemPlace), x.block < W.heap.size := fun _ h => by cases h
  have hlt0 : ∀ x ∈ p0, x.block < W.heap.size := fun x hx => by first | (have := hW'.lt x hx; simpa using this) | (have := hW'.lt x (by simp [hx]); simpa using this)
  refine ⟨_, rfl, _, _, _, [], p0, [], hW', ?_, ?_, ?_, bel.frame _, fun h => by cases h⟩
  · exact trodAll_mk1 (shut_bool Tryz.underlying4 _)
  · have h9 := trodAll_mk5 (Below.trod out_seat (by kernel_rfl) (of_decide_eq_true (by kernel_rfl)) h0 bel hlt0) (Below.trod out_seat (by kernel_rfl) (of_decide_eq_true (by kernel_rfl)) h1 bel nx) (Below.trod out_seat (by kernel_rfl) (of_decide_eq_true (by kernel_rfl)) h2 bel nx) (Below.trod out_seat (by kernel_rfl) (of_decide_eq_true (by kernel_rfl)) h3 bel nx) (Below.trod out_seat (by kernel_rfl) (of_decide_eq_true (by kernel_rfl)) h4 bel nx)
    first | exact h9 | (simp only [List.append_nil, List.nil_append] at h9; exact h9) | (simpa using h9)
  · rfl
end Go.Proofs.YtcncdepjbhnknaaGreatDoor
