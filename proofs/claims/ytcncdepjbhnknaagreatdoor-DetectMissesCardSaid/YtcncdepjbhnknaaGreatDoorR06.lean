/- The parts RCurve, RPlace of a proof, put together by program (merge6.py). -/
import Derived.Test.YtcncdepjbhnknaaGreatDoorR01
import Derived.Test.YtcncdepjbhnknaaGreatDoorR05
import Derived.Test.YtcncdepjbhnknaaGreatDoorH19
import Derived.Test.YtcncdepjbhnknaaGreatDoorH15
set_option linter.unusedVariables false
set_option linter.unusedSimpArgs false
namespace Go.Proofs.YtcncdepjbhnknaaGreatDoor
open Go.RowKit Go.Shelf
attribute [local go_sem ↓] Go.wp_at_zero Go.wp_at_succ

def CurveB (bs : List BB) (w : World) (e : Ending) (w' : World) : Prop := ∃ r : Bool, e = .returned (.bool r) ∧ (r = true ↔ CurveP bs) ∧ Below w.heap.size w w'
theorem curve_no {bs : List BB} (h : ¬ CurveP bs) : (false = true ↔ CurveP bs) := ⟨fun h2 => (by cases h2), fun h2 => absurd h2 h⟩
set_option maxRecDepth 100000 in
set_option maxHeartbeats 8000000 in
theorem rcurve_any {v : Value} {bs : List BB} {w : World} (hv : BL w v bs) (hz : LimB bs) : Calls Tryz.prog 58 #[v] w (CurveB bs w) := by
  obtain ⟨n, hn⟩ : ∃ n, bs.length = n := ⟨_, rfl⟩
  obtain ⟨p, c, rfl⟩ : ∃ p c, v = .slice p n c := by obtain ⟨p, c, h, _⟩ := id hv; exact ⟨_, _, by rw [← hn]; exact h⟩
  obtain ⟨_, hcc, hnc⟩ := hv.len
  have HL := Lib.hid hn
  have HZ := Lib.hid hz
  by_cases h2 : 2 ≤ n ∧ n ≤ 64
  rotate_left
  · have H : Hid ((decide ((2 : Int) ≤ n) && decide ((n : Int) ≤ 64)) = false) := by show _ = _; rw [Bool.and_eq_false_iff]; simp only [decide_eq_false_iff_not]; omega
    have HNT : Hid (¬ CurveP bs) := fun hc => by have := hc.len; rw [HL.out] at this; exact h2 this
    clear h2 hv hn hz
    go_enter Tryz.func58, Tryz.ntmps58
    have HE0 := Lib.hid (Env.start w).drew
    go_wp2_with fail
    refine tsteps_plain [(true, 0), (true, 1), (false, 2), (true, 3), (true, 4), (true, 5), (true, 6), (true, 7), (true, 8), (false, 9), (true, 10), (true, 11), (true, 12), (true, 13), (true, 14), (true, 15), (true, 16), (false, 17), (true, 18), (true, 19)] (Env w.heap.size w [] []) (fun _ => false)
      (by kernel_rfl) (by kernel_rfl) (by kernel_rfl) (fun _ _ => rfl) (fun _ _ o _ _ h => by cases o <;> exact h) HE0.out ?_
    skip
    iterate 2
      refine steps_read _ rfl rfl (fun w' hS => by skip; go_simp; first | rfl | (rw [if_pos (by omega)])) ?_
      simp only [List.getElem_toArray, List.getElem_cons_succ, List.getElem_cons_zero, Act.put, List.setIfInBounds_toArray, List.set_cons_zero, List.set_cons_succ]
    refine steps_write rfl rfl fun K hK => ?_
    go_simp
    go_at_call 51
    have HEC := HE0
    refine (rin_any _ 2 64 _).mono ?_
    rintro e w1 ⟨rfl, hb⟩
    have HE1 := Lib.hid (HE0.out.step hb)
    refine hK _ _ (.inr HE1.out) ?_
    clear hK K hb HEC
    rw [H.out]
    skip
    iterate 2
      refine steps_read _ rfl rfl (fun w' hS => by skip; go_simp; first | rfl | (rw [if_pos (by omega)])) ?_
      simp only [List.getElem_toArray, List.getElem_cons_succ, List.getElem_cons_zero, Act.put, List.setIfInBounds_toArray, List.set_cons_zero, List.set_cons_succ]
    iterate 4
      refine steps_skip rfl rfl ?_
      simp only [List.getElem_toArray, List.getElem_cons_succ, List.getElem_cons_zero, Act.put, List.setIfInBounds_toArray, List.set_cons_zero, List.set_cons_succ]
    refine steps_skipw rfl rfl HE1.out ?_
    simp only [List.getElem_toArray, List.getElem_cons_succ, List.getElem_cons_zero, Act.put, List.setIfInBounds_toArray, List.set_cons_zero, List.set_cons_succ]
    iterate 1
      refine steps_skip rfl rfl ?_
      simp only [List.getElem_toArray, List.getElem_cons_succ, List.getElem_cons_zero, Act.put, List.setIfInBounds_toArray, List.set_cons_zero, List.set_cons_succ]
    iterate 2
      refine steps_read _ rfl rfl (fun w' hS => by skip; go_simp; first | rfl | (rw [if_pos (by omega)])) ?_
      simp only [List.getElem_toArray, List.getElem_cons_succ, List.getElem_cons_zero, Act.put, List.setIfInBounds_toArray, List.set_cons_zero, List.set_cons_succ]
    iterate 4
      refine steps_skip rfl rfl ?_
      simp only [List.getElem_toArray, List.getElem_cons_succ, List.getElem_cons_zero, Act.put, List.setIfInBounds_toArray, List.set_cons_zero, List.set_cons_succ]
    refine steps_skipw rfl rfl HE1.out ?_
    simp only [List.getElem_toArray, List.getElem_cons_succ, List.getElem_cons_zero, Act.put, List.setIfInBounds_toArray, List.set_cons_zero, List.set_cons_succ]
    iterate 1
      refine steps_skip rfl rfl ?_
      simp only [List.getElem_toArray, List.getElem_cons_succ, List.getElem_cons_zero, Act.put, List.setIfInBounds_toArray, List.set_cons_zero, List.set_cons_succ]
    iterate 1
      refine steps_read _ rfl rfl (fun w' hS => by skip; go_simp; first | rfl | (rw [if_pos (by omega)])) ?_
      simp only [List.getElem_toArray, List.getElem_cons_succ, List.getElem_cons_zero, Act.put, List.setIfInBounds_toArray, List.set_cons_zero, List.set_cons_succ]
    refine steps_end ?_
    skip
    go_wp2
    go_ret
    exact ⟨false, rfl, curve_no HNT.out, HE1.out.base⟩
  have H : Hid ((decide ((2 : Int) ≤ n) && decide ((n : Int) ≤ 64)) = true) := by show _ = _; simp; omega
  obtain ⟨b, off, rfl, hbl, hat⟩ := hv.at hn (by omega)
  have HAT := Lib.hid hat
  have hfst := fun V hV => hat V hV 0 (by omega)
  simp only [Nat.zero_mul, Nat.add_zero] at hfst
  obtain ⟨q, hq⟩ : ∃ q, bAt bs 0 = q := ⟨_, rfl⟩
  rw [hq] at hfst
  have HQ0 := Lib.hid hq
  obtain ⟨⟨s, t⟩, u, v⟩ := q
  dsimp only at hfst
  have HF := Lib.hid hfst
  have i1' : (0 : Int) < (n : Int) := by omega
  have H2 := Lib.hid h2
  clear hv hat hfst hq hn hz h2
  go_enter Tryz.func58, Tryz.ntmps58
  have HE0 := Lib.hid (Env.start w).drew
  go_wp2_with fail
  refine tsteps_plain [(true, 0), (true, 1), (false, 2), (true, 3), (true, 4), (true, 5), (true, 6), (true, 7), (true, 8), (false, 9), (true, 10), (true, 11), (true, 12), (true, 13), (true, 14), (true, 15), (true, 16), (false, 17), (true, 18), (true, 19)] (Env w.heap.size w [] []) (fun _ => false)
    (by kernel_rfl) (by kernel_rfl) (by kernel_rfl) (fun _ _ => rfl) (fun _ _ o _ _ h => by cases o <;> exact h) HE0.out ?_
  skip
  iterate 2
    refine steps_read _ rfl rfl (fun w' hS => by skip; go_simp; first | rfl | (rw [if_pos (by omega)])) ?_
    simp only [List.getElem_toArray, List.getElem_cons_succ, List.getElem_cons_zero, Act.put, List.setIfInBounds_toArray, List.set_cons_zero, List.set_cons_succ]
  refine steps_write rfl rfl fun K hK => ?_
  go_simp
  go_at_call 51
  have HEC := HE0
  refine (rin_any _ 2 64 _).mono ?_
  rintro e w1 ⟨rfl, hb⟩
  have HE1 := Lib.hid (HE0.out.step hb)
  refine hK _ _ (.inr HE1.out) ?_
  clear hK K hb HEC
  rw [H.out]
  skip
  iterate 6
    refine steps_read _ rfl rfl (fun w' hS => by obtain ⟨a0, a1, a2, a3⟩ := HF.out w' hS.base; go_simp; first | rfl | (rw [if_pos (by omega)])) ?_
    simp only [List.getElem_toArray, List.getElem_cons_succ, List.getElem_cons_zero, Act.put, List.setIfInBounds_toArray, List.set_cons_zero, List.set_cons_succ]
  refine steps_write rfl rfl fun K hK => ?_
  go_simp
  go_at_call 87
  have HEC := HE1
  refine (rzero_any _).mono ?_
  rintro e w2 ⟨rfl, hb⟩
  have HE2 := Lib.hid (HE1.out.step hb)
  refine hK _ _ (.inr HE2.out) ?_
  clear hK K hb HEC
  by_cases hs1 : s.toList = [48] ∧ t.toList = [49]
  rotate_left
  · have hne : Hid (s.toList = [48] → ¬ t.toList = [49]) := fun h1 h3 => hs1 ⟨h1, h3⟩
    have HNT : Hid (¬ CurveP bs) := fun hc => by
      have := hc.first
      rw [HQ0.out] at this
      simp only [zeroB, Prod.mk.injEq] at this
      obtain ⟨⟨rfl, rfl⟩, _⟩ := this
      exact hs1 ⟨by decide +kernel, by decide +kernel⟩
    clear hs1
    skip
    refine steps_read (.bool true) rfl rfl (fun w' hS => by skip; go_simp; exact hne.out) ?_
    simp only [List.getElem_toArray, List.getElem_cons_succ, List.getElem_cons_zero, Act.put, List.setIfInBounds_toArray, List.set_cons_zero, List.set_cons_succ]
    iterate 2
      refine steps_read _ rfl rfl (fun w' hS => by skip; go_simp; first | rfl | (rw [if_pos (by omega)])) ?_
      simp only [List.getElem_toArray, List.getElem_cons_succ, List.getElem_cons_zero, Act.put, List.setIfInBounds_toArray, List.set_cons_zero, List.set_cons_succ]
    iterate 4
      refine steps_skip rfl rfl ?_
      simp only [List.getElem_toArray, List.getElem_cons_succ, List.getElem_cons_zero, Act.put, List.setIfInBounds_toArray, List.set_cons_zero, List.set_cons_succ]
    refine steps_skipw rfl rfl HE2.out ?_
    simp only [List.getElem_toArray, List.getElem_cons_succ, List.getElem_cons_zero, Act.put, List.setIfInBounds_toArray, List.set_cons_zero, List.set_cons_succ]
    iterate 1
      refine steps_skip rfl rfl ?_
      simp only [List.getElem_toArray, List.getElem_cons_succ, List.getElem_cons_zero, Act.put, List.setIfInBounds_toArray, List.set_cons_zero, List.set_cons_succ]
    iterate 1
      refine steps_read _ rfl rfl (fun w' hS => by skip; go_simp; first | rfl | (rw [if_pos (by omega)])) ?_
      simp only [List.getElem_toArray, List.getElem_cons_succ, List.getElem_cons_zero, Act.put, List.setIfInBounds_toArray, List.set_cons_zero, List.set_cons_succ]
    refine steps_end ?_
    skip
    go_wp2
    go_ret
    exact ⟨false, rfl, curve_no HNT.out, HE2.out.base⟩
  have hb1 : (s.toList == [48]) = true := by rw [beq_iff_eq]; exact hs1.1
  have hb2 : (t.toList == [49]) = true := by rw [beq_iff_eq]; exact hs1.2
  skip
  refine steps_read (.bool false) rfl rfl (fun w' hS => by skip; go_simp; first|done|simp [hs1.1, hs1.2]) ?_
  simp only [List.getElem_toArray, List.getElem_cons_succ, List.getElem_cons_zero, Act.put, List.setIfInBounds_toArray, List.set_cons_zero, List.set_cons_succ]
  have HS1 := Lib.hid hs1
  clear hs1 hb1 hb2
  skip
  iterate 6
    refine steps_read _ rfl rfl (fun w' hS => by obtain ⟨a0, a1, a2, a3⟩ := HF.out w' hS.base; go_simp; first | rfl | (rw [if_pos (by omega)])) ?_
    simp only [List.getElem_toArray, List.getElem_cons_succ, List.getElem_cons_zero, Act.put, List.setIfInBounds_toArray, List.set_cons_zero, List.set_cons_succ]
  refine steps_write rfl rfl fun K hK => ?_
  go_simp
  go_at_call 87
  have HEC := HE2
  refine (rzero_any _).mono ?_
  rintro e w3 ⟨rfl, hb⟩
  have HE3 := Lib.hid (HE2.out.step hb)
  refine hK _ _ (.inr HE3.out) ?_
  clear hK K hb HEC
  by_cases hs2 : u.toList = [48] ∧ v.toList = [49]
  rotate_left
  · have hne : Hid (u.toList = [48] → ¬ v.toList = [49]) := fun h1 h3 => hs2 ⟨h1, h3⟩
    have HNT : Hid (¬ CurveP bs) := fun hc => by
      have := hc.first
      rw [HQ0.out] at this
      simp only [zeroB, Prod.mk.injEq] at this
      obtain ⟨_, rfl, rfl⟩ := this
      exact hs2 ⟨by decide +kernel, by decide +kernel⟩
    clear hs2
    skip
    refine steps_read (.bool true) rfl rfl (fun w' hS => by skip; go_simp; exact hne.out) ?_
    simp only [List.getElem_toArray, List.getElem_cons_succ, List.getElem_cons_zero, Act.put, List.setIfInBounds_toArray, List.set_cons_zero, List.set_cons_succ]
    iterate 1
      refine steps_read _ rfl rfl (fun w' hS => by skip; go_simp; first | rfl | (rw [if_pos (by omega)])) ?_
      simp only [List.getElem_toArray, List.getElem_cons_succ, List.getElem_cons_zero, Act.put, List.setIfInBounds_toArray, List.set_cons_zero, List.set_cons_succ]
    refine steps_end ?_
    skip
    go_wp2
    go_ret
    exact ⟨false, rfl, curve_no HNT.out, HE3.out.base⟩
  have HF0 : Hid (bAt bs 0 = zeroB) := by
    rw [HQ0.out, toList_is HS1.out.1, toList_is HS1.out.2, toList_is hs2.1, toList_is hs2.2]
    first | done | rfl
  skip
  refine steps_read (.bool false) rfl rfl (fun w' hS => by skip; go_simp; first|done|simp [hs2.1, hs2.2]) ?_
  simp only [List.getElem_toArray, List.getElem_cons_succ, List.getElem_cons_zero, Act.put, List.setIfInBounds_toArray, List.set_cons_zero, List.set_cons_succ]
  clear hs2 HS1 HQ0 HF
  skip
  iterate 1
    refine steps_read _ rfl rfl (fun w' hS => by skip; go_simp; first | rfl | (rw [if_pos (by omega)])) ?_
    simp only [List.getElem_toArray, List.getElem_cons_succ, List.getElem_cons_zero, Act.put, List.setIfInBounds_toArray, List.set_cons_zero, List.set_cons_succ]
  refine steps_end ?_
  clear HE0 HE1 HE2
  go_wp2_with fail
  go_loopw [3] (fun i wr => ∃ k : Nat, i = .int .i64 k ∧ k ≤ n ∧ Hid (UptoC bs k) ∧ Hid (Env w.heap.size w [] [] wr)) (fun i _ => n - (intOf i).toNat)
  case atStart => exact ⟨0, rfl, Nat.zero_le _, UptoC.zero bs, HE3⟩
  case round =>
    obtain ⟨k, rfl, hk, HU, HE⟩ := hrel
    clear HE3
    by_cases hlt : k < n
    · obtain ⟨a0, a1, a2, a3⟩ := HAT.out wr HE.out.base k hlt
      obtain ⟨q, hq⟩ : ∃ q, bAt bs k = q := ⟨_, rfl⟩
      have HZZ : Hid ((q.1.1.size ≤ 1000000 ∧ q.1.2.size ≤ 1000000) ∧ q.2.1.size ≤ 1000000 ∧ q.2.2.size ≤ 1000000) := by rw [← hq]; exact HZ.out _ (bAt_mem (by rw [HL.out]; exact hlt))
      rw [hq] at a0 a1 a2 a3
      have HQ := Lib.hid hq
      have HFK : Hid (∀ V, Env w.heap.size w [] [] V → V.cell? ⟨b, off + k * 4, none⟩ = some (.string q.1.1) ∧ V.cell? ⟨b, off + k * 4 + 1, none⟩ = some (.string q.1.2) ∧ V.cell? ⟨b, off + k * 4 + 2, none⟩ = some (.string q.2.1) ∧ V.cell? ⟨b, off + k * 4 + 3, none⟩ = some (.string q.2.2)) := fun V hV => by rw [← hq]; exact HAT.out V hV.base k hlt
      obtain ⟨⟨s, t⟩, u, v⟩ := q
      dsimp only at a0 a1 a2 a3 HZZ HFK
      have i0' : (0 : Int) ≤ (k : Int) := by omega
      have i2' : (k : Int) < (n : Int) := by omega
      clear hq
      go_wp2_with fail
      refine (rsmall_any s t HZZ.out.1.1 HZZ.out.1.2 _).mono ?_
      rintro e w1 ⟨rfl, hb⟩
      have HE1 := Lib.hid (HE.out.step hb)
      obtain ⟨a0, a1, a2, a3⟩ := HFK.out w1 HE1.out
      clear hb
      go_wp2_with fail
      refine (rsmall_any u v HZZ.out.2.1 HZZ.out.2.2 _).mono ?_
      rintro e w2 ⟨rfl, hb⟩
      have HE2 := Lib.hid (HE1.out.step hb)
      clear hb a0 a1 a2 a3
      have HE2' := Lib.hid HE2.out.drew
      cases hm1 : smallP 18 (s, t)
      · have HNT : Hid (¬ CurveP bs) := no_small (by rw [HL.out]; exact hlt) (.inl (by rw [HQ.out]; exact hm1))
        clear hm1
        go_wp2_with fail
        skip
        refine tsteps_plain [(true, 0), (true, 1), (true, 2), (true, 3), (true, 4), (true, 5), (true, 6), (true, 7), (true, 8), (true, 9), (true, 10), (true, 11), (false, 12), (false, 13), (true, 14), (true, 15)] (Env w.heap.size w [] []) (fun _ => false)
          (by kernel_rfl) (by kernel_rfl) (by kernel_rfl) (fun _ _ => rfl) (fun _ _ o _ _ h => by cases o <;> exact h) HE2.out.drew ?_
        iterate 3
          refine steps_read _ rfl rfl (fun w' hS => by skip; go_simp; first | rfl | (rw [if_pos (by omega)])) ?_
          simp only [List.getElem_toArray, List.getElem_cons_succ, List.getElem_cons_zero, Act.put, List.setIfInBounds_toArray, List.set_cons_zero, List.set_cons_succ]
        iterate 2
          refine steps_skip rfl rfl ?_
          simp only [List.getElem_toArray, List.getElem_cons_succ, List.getElem_cons_zero, Act.put, List.setIfInBounds_toArray, List.set_cons_zero, List.set_cons_succ]
        iterate 2
          refine steps_read _ rfl rfl (fun w' hS => by skip; go_simp; first | rfl | (rw [if_pos (by omega)])) ?_
          simp only [List.getElem_toArray, List.getElem_cons_succ, List.getElem_cons_zero, Act.put, List.setIfInBounds_toArray, List.set_cons_zero, List.set_cons_succ]
        iterate 5
          refine steps_skip rfl rfl ?_
          simp only [List.getElem_toArray, List.getElem_cons_succ, List.getElem_cons_zero, Act.put, List.setIfInBounds_toArray, List.set_cons_zero, List.set_cons_succ]
        refine steps_skipw rfl rfl HE2.out.drew ?_
        simp only [List.getElem_toArray, List.getElem_cons_succ, List.getElem_cons_zero, Act.put, List.setIfInBounds_toArray, List.set_cons_zero, List.set_cons_succ]
        refine steps_skipw rfl rfl HE2.out.drew ?_
        simp only [List.getElem_toArray, List.getElem_cons_succ, List.getElem_cons_zero, Act.put, List.setIfInBounds_toArray, List.set_cons_zero, List.set_cons_succ]
        iterate 1
          refine steps_skip rfl rfl ?_
          simp only [List.getElem_toArray, List.getElem_cons_succ, List.getElem_cons_zero, Act.put, List.setIfInBounds_toArray, List.set_cons_zero, List.set_cons_succ]
        iterate 1
          refine steps_read _ rfl rfl (fun w' hS => by skip; go_simp; first | rfl | (rw [if_pos (by omega)])) ?_
          simp only [List.getElem_toArray, List.getElem_cons_succ, List.getElem_cons_zero, Act.put, List.setIfInBounds_toArray, List.set_cons_zero, List.set_cons_succ]
        refine steps_end ?_
        skip
        go_wp2
        go_ret
        exact ⟨false, rfl, curve_no HNT.out, HE2'.out.base⟩
      · cases hm2 : smallP 18 (u, v)
        · have HNT : Hid (¬ CurveP bs) := no_small (by rw [HL.out]; exact hlt) (.inr (by rw [HQ.out]; exact hm2))
          clear hm1 hm2
          go_wp2_with fail
          skip
          refine tsteps_plain [(true, 0), (true, 1), (true, 2), (true, 3), (true, 4), (true, 5), (true, 6), (true, 7), (true, 8), (true, 9), (true, 10), (true, 11), (false, 12), (false, 13), (true, 14), (true, 15)] (Env w.heap.size w [] []) (fun _ => false)
            (by kernel_rfl) (by kernel_rfl) (by kernel_rfl) (fun _ _ => rfl) (fun _ _ o _ _ h => by cases o <;> exact h) HE2.out.drew ?_
          iterate 7
            refine steps_read _ rfl rfl (fun w' hS => by skip; go_simp; first | rfl | (rw [if_pos (by omega)])) ?_
            simp only [List.getElem_toArray, List.getElem_cons_succ, List.getElem_cons_zero, Act.put, List.setIfInBounds_toArray, List.set_cons_zero, List.set_cons_succ]
          iterate 5
            refine steps_skip rfl rfl ?_
            simp only [List.getElem_toArray, List.getElem_cons_succ, List.getElem_cons_zero, Act.put, List.setIfInBounds_toArray, List.set_cons_zero, List.set_cons_succ]
          refine steps_skipw rfl rfl HE2.out.drew ?_
          simp only [List.getElem_toArray, List.getElem_cons_succ, List.getElem_cons_zero, Act.put, List.setIfInBounds_toArray, List.set_cons_zero, List.set_cons_succ]
          refine steps_skipw rfl rfl HE2.out.drew ?_
          simp only [List.getElem_toArray, List.getElem_cons_succ, List.getElem_cons_zero, Act.put, List.setIfInBounds_toArray, List.set_cons_zero, List.set_cons_succ]
          iterate 1
            refine steps_skip rfl rfl ?_
            simp only [List.getElem_toArray, List.getElem_cons_succ, List.getElem_cons_zero, Act.put, List.setIfInBounds_toArray, List.set_cons_zero, List.set_cons_succ]
          iterate 1
            refine steps_read _ rfl rfl (fun w' hS => by skip; go_simp; first | rfl | (rw [if_pos (by omega)])) ?_
            simp only [List.getElem_toArray, List.getElem_cons_succ, List.getElem_cons_zero, Act.put, List.setIfInBounds_toArray, List.set_cons_zero, List.set_cons_succ]
          refine steps_end ?_
          skip
          go_wp2
          go_ret
          exact ⟨false, rfl, curve_no HNT.out, HE2'.out.base⟩
        · obtain ⟨pc, zc⟩ := small_is hm1
          obtain ⟨ph, zh⟩ := small_is hm2
          have HSM : Hid (smallP 18 (bAt bs k).1 = true ∧ smallP 18 (bAt bs k).2 = true) := by rw [HQ.out]; exact ⟨hm1, hm2⟩
          have ec : cR bs k = ratP s t := by unfold cR; rw [HQ.out]
          have eh : hR bs k = ratP u v := by unfold hR; rw [HQ.out]
          dsimp only at pc zc ph zh
          rw [← ec] at pc zc
          rw [← eh] at ph zh
          obtain ⟨g0, hg0⟩ : ∃ z, sgnR (hR bs k) 1 = z := ⟨_, rfl⟩
          have HG0 := Lib.hid hg0
          have PC := Lib.hid pc
          have ZC := Lib.hid zc
          have PH := Lib.hid ph
          have ZH := Lib.hid zh
          clear hm1 hm2 ec eh pc zc ph zh hg0
          by_cases htop : (0 : Int) < g0
          · have HNT : Hid (¬ CurveP bs) := no_top (by rw [HL.out]; exact hlt) (fun h => by have := sgnR_le h; rw [HG0.out] at this; exact this htop)
            go_wp2_with fail
            skip
            refine tsteps_plain [(true, 0), (true, 1), (true, 2), (true, 3), (true, 4), (true, 5), (true, 6), (true, 7), (true, 8), (true, 9), (true, 10), (true, 11), (false, 12), (false, 13), (true, 14), (true, 15)] (Env w.heap.size w [] []) (fun _ => false)
              (by kernel_rfl) (by kernel_rfl) (by kernel_rfl) (fun _ _ => rfl) (fun _ _ o _ _ h => by cases o <;> exact h) HE2.out.drew ?_
            iterate 12
              refine steps_read _ rfl rfl (fun w' hS => by obtain ⟨a0, a1, a2, a3⟩ := HFK.out w' hS; go_simp; first | rfl | (rw [if_pos (by omega)])) ?_
              simp only [List.getElem_toArray, List.getElem_cons_succ, List.getElem_cons_zero, Act.put, List.setIfInBounds_toArray, List.set_cons_zero, List.set_cons_succ]
            skip
            refine steps_write rfl rfl fun K hK => ?_
            go_simp
            go_at_call 94
            have HEC := HE2'
            refine (rone_any _).mono ?_
            rintro e w3 ⟨rfl, hb⟩
            have HE3 := Lib.hid (HE2'.out.step hb)
            refine hK _ _ (.inr HE3.out) ?_
            clear hK K hb HEC
            refine steps_write rfl rfl fun K hK => ?_
            go_simp
            go_at_call 88
            have HEC := HE3
            refine (rcmp_to PH.out isP_one HG0.out _).mono ?_
            rintro e w4 ⟨rfl, hb⟩
            have HE4 := Lib.hid (HE3.out.step hb)
            refine hK _ _ (.inr HE4.out) ?_
            clear hK K hb HEC
            skip
            iterate 2
              refine steps_read _ rfl rfl (fun w' hS => by skip; go_simp; first | rfl | (rw [if_pos (by omega)])) ?_
              simp only [List.getElem_toArray, List.getElem_cons_succ, List.getElem_cons_zero, Act.put, List.setIfInBounds_toArray, List.set_cons_zero, List.set_cons_succ]
            refine steps_end ?_
            skip
            go_wp2
            go_ret
            exact ⟨false, rfl, curve_no HNT.out, HE4.out.base⟩
          · have HTOP : Hid (hR bs k ≤ 1) := Rat.not_lt.1 fun h => htop (by rw [← HG0.out]; exact sgnR_gt (Rat.not_le.2 h))
            go_wp2_with fail
            skip
            refine tsteps_plain [(true, 0), (true, 1), (true, 2), (true, 3), (true, 4), (true, 5), (true, 6), (true, 7), (true, 8), (true, 9), (true, 10), (true, 11), (false, 12), (false, 13), (true, 14), (true, 15)] (Env w.heap.size w [] []) (fun _ => false)
              (by kernel_rfl) (by kernel_rfl) (by kernel_rfl) (fun _ _ => rfl) (fun _ _ o _ _ h => by cases o <;> exact h) HE2.out.drew ?_
            iterate 12
              refine steps_read _ rfl rfl (fun w' hS => by obtain ⟨a0, a1, a2, a3⟩ := HFK.out w' hS; go_simp; first | rfl | (rw [if_pos (by omega)])) ?_
              simp only [List.getElem_toArray, List.getElem_cons_succ, List.getElem_cons_zero, Act.put, List.setIfInBounds_toArray, List.set_cons_zero, List.set_cons_succ]
            skip
            refine steps_write rfl rfl fun K hK => ?_
            go_simp
            go_at_call 94
            have HEC := HE2'
            refine (rone_any _).mono ?_
            rintro e w3 ⟨rfl, hb⟩
            have HE3 := Lib.hid (HE2'.out.step hb)
            refine hK _ _ (.inr HE3.out) ?_
            clear hK K hb HEC
            refine steps_write rfl rfl fun K hK => ?_
            go_simp
            go_at_call 88
            have HEC := HE3
            refine (rcmp_to PH.out isP_one HG0.out _).mono ?_
            rintro e w4 ⟨rfl, hb⟩
            have HE4 := Lib.hid (HE3.out.step hb)
            refine hK _ _ (.inr HE4.out) ?_
            clear hK K hb HEC
            skip
            iterate 2
              refine steps_read _ rfl rfl (fun w' hS => by skip; go_simp; first | rfl | (rw [if_pos (by omega)])) ?_
              simp only [List.getElem_toArray, List.getElem_cons_succ, List.getElem_cons_zero, Act.put, List.setIfInBounds_toArray, List.set_cons_zero, List.set_cons_succ]
            refine steps_end ?_
            go_wp2_with fail
            clear HE HE1 HE2 HE2' HE3 htop HG0
            rcases Nat.eq_zero_or_pos k with hk0 | hk0
            · have hnk : ¬ (0 : Int) < (k : Int) := by omega
              have hnk1 : ¬ (1 : Int) < (k : Int) := by omega
              skip
              refine tsteps_plain [(true, 0), (true, 1), (true, 2), (true, 3), (true, 4), (true, 5), (true, 6), (true, 7), (true, 8), (true, 9), (true, 10), (true, 11), (true, 12), (true, 13), (false, 14), (true, 15), (true, 16), (true, 17), (true, 18), (true, 19), (true, 20), (true, 21), (true, 22), (true, 23), (true, 24), (true, 25), (true, 26), (true, 27), (false, 28), (true, 29), (true, 30), (true, 31)] (Env w.heap.size w [] []) (fun _ => false)
                (by kernel_rfl) (by kernel_rfl) (by kernel_rfl) (fun _ _ => rfl) (fun _ _ o _ _ h => by cases o <;> exact h) HE4.out.drew ?_
              iterate 3
                refine steps_read _ rfl rfl (fun w' hS => by skip; go_simp; first | rfl | (rw [if_pos (by omega)])) ?_
                simp only [List.getElem_toArray, List.getElem_cons_succ, List.getElem_cons_zero, Act.put, List.setIfInBounds_toArray, List.set_cons_zero, List.set_cons_succ]
              iterate 11
                refine steps_skip rfl rfl ?_
                simp only [List.getElem_toArray, List.getElem_cons_succ, List.getElem_cons_zero, Act.put, List.setIfInBounds_toArray, List.set_cons_zero, List.set_cons_succ]
              refine steps_skipw rfl rfl HE4.out.drew ?_
              simp only [List.getElem_toArray, List.getElem_cons_succ, List.getElem_cons_zero, Act.put, List.setIfInBounds_toArray, List.set_cons_zero, List.set_cons_succ]
              iterate 13
                refine steps_skip rfl rfl ?_
                simp only [List.getElem_toArray, List.getElem_cons_succ, List.getElem_cons_zero, Act.put, List.setIfInBounds_toArray, List.set_cons_zero, List.set_cons_succ]
              refine steps_skipw rfl rfl HE4.out.drew ?_
              simp only [List.getElem_toArray, List.getElem_cons_succ, List.getElem_cons_zero, Act.put, List.setIfInBounds_toArray, List.set_cons_zero, List.set_cons_succ]
              iterate 2
                refine steps_skip rfl rfl ?_
                simp only [List.getElem_toArray, List.getElem_cons_succ, List.getElem_cons_zero, Act.put, List.setIfInBounds_toArray, List.set_cons_zero, List.set_cons_succ]
              iterate 1
                refine steps_read _ rfl rfl (fun w' hS => by skip; go_simp; first | rfl | (rw [if_pos (by omega)])) ?_
                simp only [List.getElem_toArray, List.getElem_cons_succ, List.getElem_cons_zero, Act.put, List.setIfInBounds_toArray, List.set_cons_zero, List.set_cons_succ]
              refine steps_end ?_
              go_wp2_with fail
              skip
              skip
              refine tsteps_plain [(true, 0), (true, 1), (true, 2), (true, 3), (true, 4), (true, 5), (true, 6), (true, 7), (true, 8), (true, 9), (true, 10), (true, 11), (true, 13), (true, 14), (true, 15), (true, 16), (true, 17), (true, 18), (true, 19), (true, 20), (true, 21), (true, 22), (false, 12), (false, 23), (false, 24), (true, 25), (true, 26)] (Env w.heap.size w [] []) (fun _ => false)
                (by kernel_rfl) (by kernel_rfl) (by kernel_rfl) (fun _ _ => rfl) (fun _ _ o _ _ h => by cases o <;> exact h) HE4.out.drew.drew ?_
              iterate 1
                refine steps_read _ rfl rfl (fun w' hS => by skip; go_simp; first | rfl | (rw [if_pos (by omega)])) ?_
                simp only [List.getElem_toArray, List.getElem_cons_succ, List.getElem_cons_zero, Act.put, List.setIfInBounds_toArray, List.set_cons_zero, List.set_cons_succ]
              refine steps_read (.bool false) rfl rfl (fun w' hS => by skip; go_simp; first|done|rfl|simp [hnk1]) ?_
              simp only [List.getElem_toArray, List.getElem_cons_succ, List.getElem_cons_zero, Act.put, List.setIfInBounds_toArray, List.set_cons_zero, List.set_cons_succ]
              iterate 1
                refine steps_read _ rfl rfl (fun w' hS => by skip; go_simp; first | rfl | (rw [if_pos (by omega)])) ?_
                simp only [List.getElem_toArray, List.getElem_cons_succ, List.getElem_cons_zero, Act.put, List.setIfInBounds_toArray, List.set_cons_zero, List.set_cons_succ]
              iterate 19
                refine steps_skip rfl rfl ?_
                simp only [List.getElem_toArray, List.getElem_cons_succ, List.getElem_cons_zero, Act.put, List.setIfInBounds_toArray, List.set_cons_zero, List.set_cons_succ]
              refine steps_skipw rfl rfl HE4.out.drew.drew ?_
              simp only [List.getElem_toArray, List.getElem_cons_succ, List.getElem_cons_zero, Act.put, List.setIfInBounds_toArray, List.set_cons_zero, List.set_cons_succ]
              refine steps_skipw rfl rfl HE4.out.drew.drew ?_
              simp only [List.getElem_toArray, List.getElem_cons_succ, List.getElem_cons_zero, Act.put, List.setIfInBounds_toArray, List.set_cons_zero, List.set_cons_succ]
              refine steps_skipw rfl rfl HE4.out.drew.drew ?_
              simp only [List.getElem_toArray, List.getElem_cons_succ, List.getElem_cons_zero, Act.put, List.setIfInBounds_toArray, List.set_cons_zero, List.set_cons_succ]
              iterate 1
                refine steps_skip rfl rfl ?_
                simp only [List.getElem_toArray, List.getElem_cons_succ, List.getElem_cons_zero, Act.put, List.setIfInBounds_toArray, List.set_cons_zero, List.set_cons_succ]
              iterate 1
                refine steps_read _ rfl rfl (fun w' hS => by skip; go_simp; first | rfl | (rw [if_pos (by omega)])) ?_
                simp only [List.getElem_toArray, List.getElem_cons_succ, List.getElem_cons_zero, Act.put, List.setIfInBounds_toArray, List.set_cons_zero, List.set_cons_succ]
              refine steps_end ?_
              have HU2 : Hid (UptoC bs (k + 1)) := HU.out.step HSM.out HTOP.out (fun i hi => by omega) (fun i hi => by omega)
              have HE5 := Lib.hid HE4.out.drew.drew
              clear hk0
              go_wp2
              go_roundw
              case rel => exact ⟨k + 1, by go_num, by omega, HU2, HE5⟩
              case measure => simp [intOf]; omega
            · obtain ⟨j, hj⟩ : ∃ j, k = j + 1 := ⟨k - 1, by omega⟩
              have e1 : IntKind.i64.wrap ((k : Int) - 1) = (j : Int) := by rw [IntWalk.i64_in _ (by omega)]; omega
              obtain ⟨q, hq⟩ : ∃ q, bAt bs j = q := ⟨_, rfl⟩
              have HFJ : Hid (∀ V, Env w.heap.size w [] [] V → V.cell? ⟨b, off + j * 4, none⟩ = some (.string q.1.1) ∧ V.cell? ⟨b, off + j * 4 + 1, none⟩ = some (.string q.1.2) ∧ V.cell? ⟨b, off + j * 4 + 2, none⟩ = some (.string q.2.1) ∧ V.cell? ⟨b, off + j * 4 + 3, none⟩ = some (.string q.2.2)) := fun V hV => by rw [← hq]; exact HAT.out V hV.base j (by omega)
              obtain ⟨sm1, sm2⟩ := HU.out.small j (by omega)
              obtain ⟨pc, zc⟩ := small_is sm1
              obtain ⟨ph, zh⟩ := small_is sm2
              have PCJ : Hid (IsP (cR bs j) q.1.1 q.1.2 ∧ Sz 18 (cR bs j)) := by rw [← hq]; exact ⟨pc, zc⟩
              have PHJ : Hid (IsP (hR bs j) q.2.1 q.2.2 ∧ Sz 18 (hR bs j)) := by rw [← hq]; exact ⟨ph, zh⟩
              obtain ⟨⟨s1, t1⟩, u1, v1⟩ := q
              dsimp only at HFJ PCJ PHJ
              have hp1 : (0 : Int) < (k : Int) := by omega
              have j0' : (0 : Int) ≤ (j : Int) := by omega
              have j1' : (j : Int) < (n : Int) := by omega
              have HJ := Lib.hid hj
              obtain ⟨m1, hm1⟩ : ∃ z, sgnR (cR bs k) (cR bs j) = z := ⟨_, rfl⟩
              obtain ⟨m2, hm2⟩ : ∃ z, sgnR (hR bs k) (hR bs j) = z := ⟨_, rfl⟩
              have HM1 := Lib.hid hm1
              have HM2 := Lib.hid hm2
              clear hq sm1 sm2 pc zc ph zh hj hm1 hm2
              have HE4' := Lib.hid HE4.out.drew
              by_cases hup1 : m1 ≤ 0
              · have HNT : Hid (¬ CurveP bs) := no_up (i := j) (by rw [HL.out, ← HJ.out]; exact hlt) fun h => by
                  rw [← HJ.out] at h
                  have := sgnR_gt (a := cR bs k) (b := cR bs j) (Rat.not_le.2 h.1)
                  rw [HM1.out] at this
                  omega
                skip
                refine tsteps_plain [(true, 0), (true, 1), (true, 2), (true, 3), (true, 4), (true, 5), (true, 6), (true, 7), (true, 8), (true, 9), (true, 10), (true, 11), (true, 12), (true, 13), (false, 14), (true, 15), (true, 16), (true, 17), (true, 18), (true, 19), (true, 20), (true, 21), (true, 22), (true, 23), (true, 24), (true, 25), (true, 26), (true, 27), (false, 28), (true, 29), (true, 30), (true, 31)] (Env w.heap.size w [] []) (fun _ => false)
                  (by kernel_rfl) (by kernel_rfl) (by kernel_rfl) (fun _ _ => rfl) (fun _ _ o _ _ h => by cases o <;> exact h) HE4.out.drew ?_
                iterate 14
                  refine steps_read _ rfl rfl (fun w' hS => by obtain ⟨a0, a1, a2, a3⟩ := HFK.out w' hS; obtain ⟨b0, b1, b2, b3⟩ := HFJ.out w' hS; go_simp; first | rfl | (rw [if_pos (by omega)])) ?_
                  simp only [List.getElem_toArray, List.getElem_cons_succ, List.getElem_cons_zero, Act.put, List.setIfInBounds_toArray, List.set_cons_zero, List.set_cons_succ]
                refine steps_write rfl rfl fun K hK => ?_
                go_simp
                go_at_call 88
                have HEC := HE4'
                refine (rcmp_to PC.out PCJ.out.1 HM1.out _).mono ?_
                rintro e w5 ⟨rfl, hb⟩
                have HE5 := Lib.hid (HE4'.out.step hb)
                refine hK _ _ (.inr HE5.out) ?_
                clear hK K hb HEC
                iterate 2
                  refine steps_read _ rfl rfl (fun w' hS => by skip; go_simp; first | rfl | (rw [if_pos (by omega)])) ?_
                  simp only [List.getElem_toArray, List.getElem_cons_succ, List.getElem_cons_zero, Act.put, List.setIfInBounds_toArray, List.set_cons_zero, List.set_cons_succ]
                iterate 11
                  refine steps_skip rfl rfl ?_
                  simp only [List.getElem_toArray, List.getElem_cons_succ, List.getElem_cons_zero, Act.put, List.setIfInBounds_toArray, List.set_cons_zero, List.set_cons_succ]
                refine steps_skipw rfl rfl HE5.out ?_
                simp only [List.getElem_toArray, List.getElem_cons_succ, List.getElem_cons_zero, Act.put, List.setIfInBounds_toArray, List.set_cons_zero, List.set_cons_succ]
                iterate 1
                  refine steps_skip rfl rfl ?_
                  simp only [List.getElem_toArray, List.getElem_cons_succ, List.getElem_cons_zero, Act.put, List.setIfInBounds_toArray, List.set_cons_zero, List.set_cons_succ]
                iterate 2
                  refine steps_read _ rfl rfl (fun w' hS => by skip; go_simp; first | rfl | (rw [if_pos (by omega)])) ?_
                  simp only [List.getElem_toArray, List.getElem_cons_succ, List.getElem_cons_zero, Act.put, List.setIfInBounds_toArray, List.set_cons_zero, List.set_cons_succ]
                refine steps_end ?_
                skip
                go_wp2
                go_ret
                exact ⟨false, rfl, curve_no HNT.out, HE5.out.base⟩
              by_cases hup2 : m2 < 0
              · have HNT : Hid (¬ CurveP bs) := no_up (i := j) (by rw [HL.out, ← HJ.out]; exact hlt) fun h => by
                  rw [← HJ.out] at h
                  have := sgnR_ge (a := hR bs k) (b := hR bs j) (Rat.not_lt.2 h.2)
                  rw [HM2.out] at this
                  omega
                skip
                refine tsteps_plain [(true, 0), (true, 1), (true, 2), (true, 3), (true, 4), (true, 5), (true, 6), (true, 7), (true, 8), (true, 9), (true, 10), (true, 11), (true, 12), (true, 13), (false, 14), (true, 15), (true, 16), (true, 17), (true, 18), (true, 19), (true, 20), (true, 21), (true, 22), (true, 23), (true, 24), (true, 25), (true, 26), (true, 27), (false, 28), (true, 29), (true, 30), (true, 31)] (Env w.heap.size w [] []) (fun _ => false)
                  (by kernel_rfl) (by kernel_rfl) (by kernel_rfl) (fun _ _ => rfl) (fun _ _ o _ _ h => by cases o <;> exact h) HE4.out.drew ?_
                iterate 14
                  refine steps_read _ rfl rfl (fun w' hS => by obtain ⟨a0, a1, a2, a3⟩ := HFK.out w' hS; obtain ⟨b0, b1, b2, b3⟩ := HFJ.out w' hS; go_simp; first | rfl | (rw [if_pos (by omega)])) ?_
                  simp only [List.getElem_toArray, List.getElem_cons_succ, List.getElem_cons_zero, Act.put, List.setIfInBounds_toArray, List.set_cons_zero, List.set_cons_succ]
                refine steps_write rfl rfl fun K hK => ?_
                go_simp
                go_at_call 88
                have HEC := HE4'
                refine (rcmp_to PC.out PCJ.out.1 HM1.out _).mono ?_
                rintro e w5 ⟨rfl, hb⟩
                have HE5 := Lib.hid (HE4'.out.step hb)
                refine hK _ _ (.inr HE5.out) ?_
                clear hK K hb HEC
                iterate 13
                  refine steps_read _ rfl rfl (fun w' hS => by obtain ⟨a0, a1, a2, a3⟩ := HFK.out w' hS; obtain ⟨b0, b1, b2, b3⟩ := HFJ.out w' hS; go_simp; first | rfl | (rw [if_pos (by omega)])) ?_
                  simp only [List.getElem_toArray, List.getElem_cons_succ, List.getElem_cons_zero, Act.put, List.setIfInBounds_toArray, List.set_cons_zero, List.set_cons_succ]
                refine steps_write rfl rfl fun K hK => ?_
                go_simp
                go_at_call 88
                have HEC := HE5
                refine (rcmp_to PH.out PHJ.out.1 HM2.out _).mono ?_
                rintro e w6 ⟨rfl, hb⟩
                have HE6 := Lib.hid (HE5.out.step hb)
                refine hK _ _ (.inr HE6.out) ?_
                clear hK K hb HEC
                iterate 3
                  refine steps_read _ rfl rfl (fun w' hS => by skip; go_simp; first | rfl | (rw [if_pos (by omega)])) ?_
                  simp only [List.getElem_toArray, List.getElem_cons_succ, List.getElem_cons_zero, Act.put, List.setIfInBounds_toArray, List.set_cons_zero, List.set_cons_succ]
                refine steps_end ?_
                skip
                go_wp2
                go_ret
                exact ⟨false, rfl, curve_no HNT.out, HE6.out.base⟩
              have HUP : Hid (cR bs j < cR bs k ∧ hR bs j ≤ hR bs k) := ⟨Rat.not_le.1 fun h => hup1 (by rw [← HM1.out]; exact Int.not_lt.1 (sgnR_le h)), Rat.not_lt.1 fun h => hup2 (by rw [← HM2.out]; exact Int.not_le.1 (sgnR_lt h))⟩
              skip
              refine tsteps_plain [(true, 0), (true, 1), (true, 2), (true, 3), (true, 4), (true, 5), (true, 6), (true, 7), (true, 8), (true, 9), (true, 10), (true, 11), (true, 12), (true, 13), (false, 14), (true, 15), (true, 16), (true, 17), (true, 18), (true, 19), (true, 20), (true, 21), (true, 22), (true, 23), (true, 24), (true, 25), (true, 26), (true, 27), (false, 28), (true, 29), (true, 30), (true, 31)] (Env w.heap.size w [] []) (fun _ => false)
                (by kernel_rfl) (by kernel_rfl) (by kernel_rfl) (fun _ _ => rfl) (fun _ _ o _ _ h => by cases o <;> exact h) HE4.out.drew ?_
              iterate 14
                refine steps_read _ rfl rfl (fun w' hS => by obtain ⟨a0, a1, a2, a3⟩ := HFK.out w' hS; obtain ⟨b0, b1, b2, b3⟩ := HFJ.out w' hS; go_simp; first | rfl | (rw [if_pos (by omega)])) ?_
                simp only [List.getElem_toArray, List.getElem_cons_succ, List.getElem_cons_zero, Act.put, List.setIfInBounds_toArray, List.set_cons_zero, List.set_cons_succ]
              refine steps_write rfl rfl fun K hK => ?_
              go_simp
              go_at_call 88
              have HEC := HE4'
              refine (rcmp_to PC.out PCJ.out.1 HM1.out _).mono ?_
              rintro e w5 ⟨rfl, hb⟩
              have HE5 := Lib.hid (HE4'.out.step hb)
              refine hK _ _ (.inr HE5.out) ?_
              clear hK K hb HEC
              iterate 13
                refine steps_read _ rfl rfl (fun w' hS => by obtain ⟨a0, a1, a2, a3⟩ := HFK.out w' hS; obtain ⟨b0, b1, b2, b3⟩ := HFJ.out w' hS; go_simp; first | rfl | (rw [if_pos (by omega)])) ?_
                simp only [List.getElem_toArray, List.getElem_cons_succ, List.getElem_cons_zero, Act.put, List.setIfInBounds_toArray, List.set_cons_zero, List.set_cons_succ]
              refine steps_write rfl rfl fun K hK => ?_
              go_simp
              go_at_call 88
              have HEC := HE5
              refine (rcmp_to PH.out PHJ.out.1 HM2.out _).mono ?_
              rintro e w6 ⟨rfl, hb⟩
              have HE6 := Lib.hid (HE5.out.step hb)
              refine hK _ _ (.inr HE6.out) ?_
              clear hK K hb HEC
              iterate 3
                refine steps_read _ rfl rfl (fun w' hS => by skip; go_simp; first | rfl | (rw [if_pos (by omega)])) ?_
                simp only [List.getElem_toArray, List.getElem_cons_succ, List.getElem_cons_zero, Act.put, List.setIfInBounds_toArray, List.set_cons_zero, List.set_cons_succ]
              refine steps_end ?_
              go_wp2_with fail
              clear hup1 hup2 HM1 HM2 HE4 HE4' HE5
              rcases Nat.eq_zero_or_pos j with hj0 | hj0
              · have hnk1 : ¬ (1 : Int) < (k : Int) := by have := HJ.out; omega
                go_wp2_with fail
                skip
                skip
                refine tsteps_plain [(true, 0), (true, 1), (true, 2), (true, 3), (true, 4), (true, 5), (true, 6), (true, 7), (true, 8), (true, 9), (true, 10), (true, 11), (true, 13), (true, 14), (true, 15), (true, 16), (true, 17), (true, 18), (true, 19), (true, 20), (true, 21), (true, 22), (false, 12), (false, 23), (false, 24), (true, 25), (true, 26)] (Env w.heap.size w [] []) (fun _ => false)
                  (by kernel_rfl) (by kernel_rfl) (by kernel_rfl) (fun _ _ => rfl) (fun _ _ o _ _ h => by cases o <;> exact h) HE6.out.drew ?_
                iterate 1
                  refine steps_read _ rfl rfl (fun w' hS => by skip; go_simp; first | rfl | (rw [if_pos (by omega)])) ?_
                  simp only [List.getElem_toArray, List.getElem_cons_succ, List.getElem_cons_zero, Act.put, List.setIfInBounds_toArray, List.set_cons_zero, List.set_cons_succ]
                refine steps_read (.bool false) rfl rfl (fun w' hS => by skip; go_simp; first|done|rfl|simp [hnk1]) ?_
                simp only [List.getElem_toArray, List.getElem_cons_succ, List.getElem_cons_zero, Act.put, List.setIfInBounds_toArray, List.set_cons_zero, List.set_cons_succ]
                iterate 1
                  refine steps_read _ rfl rfl (fun w' hS => by skip; go_simp; first | rfl | (rw [if_pos (by omega)])) ?_
                  simp only [List.getElem_toArray, List.getElem_cons_succ, List.getElem_cons_zero, Act.put, List.setIfInBounds_toArray, List.set_cons_zero, List.set_cons_succ]
                iterate 19
                  refine steps_skip rfl rfl ?_
                  simp only [List.getElem_toArray, List.getElem_cons_succ, List.getElem_cons_zero, Act.put, List.setIfInBounds_toArray, List.set_cons_zero, List.set_cons_succ]
                refine steps_skipw rfl rfl HE6.out.drew ?_
                simp only [List.getElem_toArray, List.getElem_cons_succ, List.getElem_cons_zero, Act.put, List.setIfInBounds_toArray, List.set_cons_zero, List.set_cons_succ]
                refine steps_skipw rfl rfl HE6.out.drew ?_
                simp only [List.getElem_toArray, List.getElem_cons_succ, List.getElem_cons_zero, Act.put, List.setIfInBounds_toArray, List.set_cons_zero, List.set_cons_succ]
                refine steps_skipw rfl rfl HE6.out.drew ?_
                simp only [List.getElem_toArray, List.getElem_cons_succ, List.getElem_cons_zero, Act.put, List.setIfInBounds_toArray, List.set_cons_zero, List.set_cons_succ]
                iterate 1
                  refine steps_skip rfl rfl ?_
                  simp only [List.getElem_toArray, List.getElem_cons_succ, List.getElem_cons_zero, Act.put, List.setIfInBounds_toArray, List.set_cons_zero, List.set_cons_succ]
                iterate 1
                  refine steps_read _ rfl rfl (fun w' hS => by skip; go_simp; first | rfl | (rw [if_pos (by omega)])) ?_
                  simp only [List.getElem_toArray, List.getElem_cons_succ, List.getElem_cons_zero, Act.put, List.setIfInBounds_toArray, List.set_cons_zero, List.set_cons_succ]
                refine steps_end ?_
                have HU2 : Hid (UptoC bs (k + 1)) := HU.out.step HSM.out HTOP.out (fun i hi => by
                  obtain rfl : i = j := by have := HJ.out; omega
                  rw [← HJ.out]
                  exact HUP.out) (fun i hi => by have := HJ.out; omega)
                have HE7 := Lib.hid HE6.out.drew
                clear hj0
                go_wp2
                go_roundw
                case rel => exact ⟨k + 1, by go_num, by omega, HU2, HE7⟩
                case measure => simp [intOf]; omega
              · obtain ⟨i, hi⟩ : ∃ i, j = i + 1 := ⟨j - 1, by omega⟩
                have e2 : IntKind.i64.wrap ((k : Int) - 2) = (i : Int) := by have := HJ.out; rw [IntWalk.i64_in _ (by omega)]; omega
                have hp2 : (1 : Int) < (k : Int) := by have := HJ.out; omega
                have hjn : j < k := by have := HJ.out; omega
                obtain ⟨q, hq⟩ : ∃ q, bAt bs i = q := ⟨_, rfl⟩
                have HFI : Hid (∀ V, Env w.heap.size w [] [] V → V.cell? ⟨b, off + i * 4, none⟩ = some (.string q.1.1) ∧ V.cell? ⟨b, off + i * 4 + 1, none⟩ = some (.string q.1.2) ∧ V.cell? ⟨b, off + i * 4 + 2, none⟩ = some (.string q.2.1) ∧ V.cell? ⟨b, off + i * 4 + 3, none⟩ = some (.string q.2.2)) := fun V hV => by rw [← hq]; exact HAT.out V hV.base i (by omega)
                obtain ⟨sm1, sm2⟩ := HU.out.small i (by omega)
                obtain ⟨pc, zc⟩ := small_is sm1
                obtain ⟨ph, zh⟩ := small_is sm2
                change IsP (cR bs i) _ _ at pc
                change Sz 18 (cR bs i) at zc
                change IsP (hR bs i) _ _ at ph
                change Sz 18 (hR bs i) at zh
                have hup := HU.out.up i (by omega)
                have ej : i + 1 = j := hi.symm
                rw [ej] at hup
                obtain ⟨⟨x1, y1, f1⟩, ⟨x2, y2, f2⟩, ⟨x3, y3, f3⟩, d1⟩ := slope_is PCJ.out.1 PHJ.out.1 PC.out PH.out PCJ.out.2 PHJ.out.2 ZC.out ZH.out HUP.out.1 HUP.out.2
                obtain ⟨⟨x4, y4, f4⟩, ⟨x5, y5, f5⟩, ⟨x6, y6, f6⟩, d2⟩ := slope_is pc ph PCJ.out.1 PHJ.out.1 zc zh PCJ.out.2 PHJ.out.2 hup.1 hup.2
                rw [hq] at pc ph
                obtain ⟨⟨s2, t2⟩, u2, v2⟩ := q
                dsimp only at HFI pc ph
                have CT1 := Lib.hid (fun W => rslope_to PCJ.out.1 PHJ.out.1 PC.out PH.out f1 f2 f3 d1 W)
                have CT2 := Lib.hid (fun W => rslope_to pc ph PCJ.out.1 PHJ.out.1 f4 f5 f6 d2 W)
                obtain ⟨m3, hm3⟩ : ∃ z, sgnR ((hR bs k - hR bs j) / (cR bs k - cR bs j)) ((hR bs j - hR bs i) / (cR bs j - cR bs i)) = z := ⟨_, rfl⟩
                have CT3 := Lib.hid (fun W => rcmp_to f3 f6 hm3 W)
                have l0' : (0 : Int) ≤ (i : Int) := by omega
                have l1' : (i : Int) < (n : Int) := by omega
                have HI := Lib.hid hi
                have HM3 := Lib.hid hm3
                clear hq sm1 sm2 pc zc ph zh hi hm3 hup ej f1 f2 f3 f4 f5 f6 d1 d2 hj0
                have HE6' := Lib.hid HE6.out.drew
                skip
                refine tsteps_plain [(true, 0), (true, 1), (true, 2), (true, 3), (true, 4), (true, 5), (true, 6), (true, 7), (true, 8), (true, 9), (true, 10), (true, 11), (true, 13), (true, 14), (true, 15), (true, 16), (true, 17), (true, 18), (true, 19), (true, 20), (true, 21), (true, 22), (false, 12), (false, 23), (false, 24), (true, 25), (true, 26)] (Env w.heap.size w [] []) (fun _ => false)
                  (by kernel_rfl) (by kernel_rfl) (by kernel_rfl) (fun _ _ => rfl) (fun _ _ o _ _ h => by cases o <;> exact h) HE6.out.drew ?_
                iterate 22
                  refine steps_read _ rfl rfl (fun w' hS => by obtain ⟨a0, a1, a2, a3⟩ := HFK.out w' hS; obtain ⟨b0, b1, b2, b3⟩ := HFJ.out w' hS; obtain ⟨c0, c1, c2, c3⟩ := HFI.out w' hS; go_simp; first | rfl | (rw [if_pos (by omega)])) ?_
                  simp only [List.getElem_toArray, List.getElem_cons_succ, List.getElem_cons_zero, Act.put, List.setIfInBounds_toArray, List.set_cons_zero, List.set_cons_succ]
                refine steps_write rfl rfl fun K hK => ?_
                go_simp
                go_at_call 84
                have HEC := HE6'
                refine (CT1.out _).mono ?_
                rintro e w7 ⟨rfl, hb⟩
                have HE7 := Lib.hid (HE6'.out.step hb)
                refine hK _ _ (.inr HE7.out) ?_
                clear hK K hb HEC
                refine steps_write rfl rfl fun K hK => ?_
                go_simp
                go_at_call 84
                have HEC := HE7
                refine (CT2.out _).mono ?_
                rintro e w8 ⟨rfl, hb⟩
                have HE8 := Lib.hid (HE7.out.step hb)
                refine hK _ _ (.inr HE8.out) ?_
                clear hK K hb HEC
                refine steps_write rfl rfl fun K hK => ?_
                go_simp
                go_at_call 88
                have HEC := HE8
                refine (CT3.out _).mono ?_
                rintro e w9 ⟨rfl, hb⟩
                have HE9 := Lib.hid (HE8.out.step hb)
                refine hK _ _ (.inr HE9.out) ?_
                clear hK K hb HEC
                iterate 2
                  refine steps_read _ rfl rfl (fun w' hS => by skip; go_simp; first | rfl | (rw [if_pos (by omega)])) ?_
                  simp only [List.getElem_toArray, List.getElem_cons_succ, List.getElem_cons_zero, Act.put, List.setIfInBounds_toArray, List.set_cons_zero, List.set_cons_succ]
                refine steps_end ?_
                clear HE6 HE6' HE7 HE8
                by_cases hcc : (0 : Int) < m3
                · have HNT : Hid (¬ CurveP bs) := no_conc (i := i) (by rw [HL.out]; have := HI.out; have := HJ.out; omega) fun h => by
                    have e3 : i + 1 = j := HI.out.symm
                    have e4 : i + 1 + 1 = k := by rw [e3]; exact HJ.out.symm
                    unfold slp at h
                    rw [e4, e3] at h
                    have := sgnR_le h
                    rw [HM3.out] at this
                    exact this hcc
                  skip
                  go_wp2
                  go_ret
                  exact ⟨false, rfl, curve_no HNT.out, HE9.out.base⟩
                · have HU2 : Hid (UptoC bs (k + 1)) := HU.out.step HSM.out HTOP.out (fun l hl => by
                    obtain rfl : l = j := by have := HJ.out; omega
                    rw [← HJ.out]
                    exact HUP.out) (fun l hl => by
                    obtain rfl : l = i := by have := HJ.out; have := HI.out; omega
                    have e3 : l + 1 = j := HI.out.symm
                    have e4 : l + 1 + 1 = k := by rw [e3]; exact HJ.out.symm
                    unfold slp
                    rw [e4, e3]
                    exact Rat.not_lt.1 fun h => hcc (by rw [← HM3.out]; exact sgnR_gt (Rat.not_le.2 h)))
                  go_wp2
                  go_roundw
                  case rel => exact ⟨k + 1, by go_num, by omega, HU2, HE9⟩
                  case measure => simp [intOf]; omega
    · obtain rfl : k = n := by omega
      have HT : Hid (CurveP bs) := by
        have h := HU.out
        rw [← HL.out] at h
        exact h.curve (by rw [HL.out]; exact H2.out) HF0.out
      go_wp2
      go_ret
      exact ⟨true, rfl, ⟨fun _ => HT.out, fun _ => rfl⟩, HE.out.base⟩
end Go.Proofs.YtcncdepjbhnknaaGreatDoor
namespace Go.Proofs.YtcncdepjbhnknaaGreatDoor
open Go.RowKit Go.Shelf
attribute [local go_sem ↓] Go.wp_at_zero Go.wp_at_succ

def PlacePost (bs : List BB) (q : Rat) (w : World) (e : Ending) (w' : World) : Prop := ∃ k : Nat, e = .returned (.int .i64 k) ∧ Piece bs.length (cR bs) q k ∧ Below w.heap.size w w'
set_option maxRecDepth 100000 in
set_option maxHeartbeats 4000000 in
theorem rplace_any {v : Value} {bs : List BB} {w : World} {q : Rat} {s t : ByteArray} (hv : BL w v bs) (hC : CurveP bs) (hq : IsP q s t) : Calls Tryz.prog 80 #[v, pV s t] w (PlacePost bs q w) := by
  obtain ⟨n, hn⟩ : ∃ n, bs.length = n := ⟨_, rfl⟩
  obtain ⟨p, c, rfl⟩ : ∃ p c, v = .slice p n c := by obtain ⟨p, c, h, _⟩ := id hv; exact ⟨_, _, by rw [← hn]; exact h⟩
  obtain ⟨_, hcc, hnc⟩ := hv.len
  have hl := hC.len
  rw [hn] at hl
  obtain ⟨b, off, rfl, hbl, hat⟩ := hv.at hn (by omega)
  have HL := Lib.hid hn
  have HAT := Lib.hid hat
  have HC := Lib.hid hC
  have HQ := Lib.hid hq
  clear hv hat hn hC hq
  go_enter Tryz.func80, Tryz.ntmps80
  have HE0 := Lib.hid ((Env.start w).push (pObj s t) rfl)
  go_wp2_with fail
  go_loopw [5] (fun i wr => ∃ k : Nat, i = .int .i64 k ∧ k < n ∧ Hid (∀ j, j < k → cR bs (j + 1) ≤ q) ∧ Hid (Env w.heap.size w [(w.heap.size, pObj s t)] [] wr)) (fun i _ => n - (intOf i).toNat)
  case atStart => exact ⟨0, rfl, by omega, fun j hj => by omega, HE0⟩
  case round =>
    obtain ⟨k, rfl, hk, HK, HE⟩ := hrel
    clear HE0
    obtain ⟨m, hm⟩ : ∃ m, m = k + 1 := ⟨_, rfl⟩
    have e1 : IntKind.i64.wrap ((k : Int) + 1) = (m : Int) := by rw [IntWalk.i64_in _ (by omega)]; omega
    have HM := Lib.hid hm
    by_cases hlt : m < n
    · have h1 : (m : Int) < (n : Int) := by omega
      have h0 : (0 : Int) ≤ (m : Int) := by omega
      obtain ⟨z, hz⟩ : ∃ z, bAt bs m = z := ⟨_, rfl⟩
      have HFM : Hid (∀ V, Env w.heap.size w [(w.heap.size, pObj s t)] [] V → V.cell? ⟨b, off + m * 4, none⟩ = some (.string z.1.1) ∧ V.cell? ⟨b, off + m * 4 + 1, none⟩ = some (.string z.1.2) ∧ V.cell? ⟨b, off + m * 4 + 2, none⟩ = some (.string z.2.1) ∧ V.cell? ⟨b, off + m * 4 + 3, none⟩ = some (.string z.2.2)) := fun V hV => by rw [← hz]; exact HAT.out V hV.base m (by omega)
      have pc := (HC.out.isC (i := m) (by rw [HL.out]; exact hlt)).1
      rw [hz] at pc
      obtain ⟨⟨s1, t1⟩, u1, v1⟩ := z
      dsimp only at pc HFM
      obtain ⟨g, hg⟩ : ∃ z, sgnR (cR bs m) q = z := ⟨_, rfl⟩
      have PC := Lib.hid pc
      have HG := Lib.hid hg
      clear hz pc hg hm
      go_wp2_with fail
      skip
      refine tsteps_plain [(true, 0), (true, 1), (true, 2), (true, 3), (true, 4), (true, 5), (true, 6), (true, 7), (true, 8), (true, 9), (true, 10), (true, 11), (true, 12), (false, 13), (true, 14), (true, 15)] (Env w.heap.size w [(w.heap.size, pObj s t)] []) (fun _ => false)
        (by kernel_rfl) (by kernel_rfl) (by kernel_rfl) (fun _ _ => rfl) (fun _ _ o _ _ h => by cases o <;> exact h) HE.out.drew ?_
      iterate 13
        refine steps_read _ rfl rfl (fun w' hS => by have c0 := hS.cell 0 0 (v := .string s) rfl rfl; have c1 := hS.cell 0 1 (v := .string t) rfl rfl; obtain ⟨a0, a1, a2, a3⟩ := HFM.out w' hS; go_simp; first | rfl | (rw [if_pos (by omega)])) ?_
        simp only [List.getElem_toArray, List.getElem_cons_succ, List.getElem_cons_zero, Act.put, List.setIfInBounds_toArray, List.set_cons_zero, List.set_cons_succ]
      have HE1 := Lib.hid HE.out.drew
      skip
      refine steps_write rfl rfl fun K hK => ?_
      go_simp
      go_at_call 88
      have HEC := HE1
      refine (rcmp_to PC.out HQ.out HG.out _).mono ?_
      rintro e w2 ⟨rfl, hb⟩
      have HE2 := Lib.hid (HE1.out.step hb)
      refine hK _ _ (.inr HE2.out) ?_
      clear hK K hb HEC
      iterate 2
        refine steps_read _ rfl rfl (fun w' hS => by skip; go_simp; first | rfl | (rw [if_pos (by omega)])) ?_
        simp only [List.getElem_toArray, List.getElem_cons_succ, List.getElem_cons_zero, Act.put, List.setIfInBounds_toArray, List.set_cons_zero, List.set_cons_succ]
      refine steps_end ?_
      clear HE HE1
      by_cases hle : g ≤ 0
      · have HK2 : Hid (∀ j, j < m → cR bs (j + 1) ≤ q) := fun j hj => by
          rcases Nat.lt_or_ge j k with h | h
          · exact HK.out j h
          · obtain rfl : j = k := by have := HM.out; omega
            rw [← HM.out]
            exact Rat.not_lt.1 fun h => by
              have := sgnR_gt (Rat.not_le.2 h)
              rw [HG.out] at this
              omega
        have hm := HM.out
        go_wp2
        go_roundw
        case rel => exact ⟨m, by go_num, by omega, HK2, HE2⟩
        case measure => simp [intOf]; omega
      · have HP : Hid (Piece bs.length (cR bs) q k) := ⟨by rw [HL.out]; exact hk, HK.out, fun _ => by
          rw [← HM.out]
          exact Rat.not_le.1 fun h => hle (by rw [← HG.out]; exact Int.not_lt.1 (sgnR_le h))⟩
        go_wp2
        go_ret
        exact ⟨k, rfl, HP.out, HE2.out.base⟩
    · have h1 : ¬ (m : Int) < (n : Int) := by omega
      have HP : Hid (Piece bs.length (cR bs) q k) := ⟨by rw [HL.out]; exact hk, HK.out, fun h => by rw [HL.out] at h; have := HM.out; omega⟩
      clear hm
      go_wp2_with fail
      skip
      refine tsteps_plain [(true, 0), (true, 1), (true, 2), (true, 3), (true, 4), (true, 5), (true, 6), (true, 7), (true, 8), (true, 9), (true, 10), (true, 11), (true, 12), (false, 13), (true, 14), (true, 15)] (Env w.heap.size w [(w.heap.size, pObj s t)] []) (fun _ => false)
        (by kernel_rfl) (by kernel_rfl) (by kernel_rfl) (fun _ _ => rfl) (fun _ _ o _ _ h => by cases o <;> exact h) HE.out.drew ?_
      iterate 6
        refine steps_read _ rfl rfl (fun w' hS => by skip; go_simp; first | rfl | (rw [if_pos (by omega)])) ?_
        simp only [List.getElem_toArray, List.getElem_cons_succ, List.getElem_cons_zero, Act.put, List.setIfInBounds_toArray, List.set_cons_zero, List.set_cons_succ]
      iterate 7
        refine steps_skip rfl rfl ?_
        simp only [List.getElem_toArray, List.getElem_cons_succ, List.getElem_cons_zero, Act.put, List.setIfInBounds_toArray, List.set_cons_zero, List.set_cons_succ]
      refine steps_skipw rfl rfl HE.out.drew ?_
      simp only [List.getElem_toArray, List.getElem_cons_succ, List.getElem_cons_zero, Act.put, List.setIfInBounds_toArray, List.set_cons_zero, List.set_cons_succ]
      iterate 1
        refine steps_skip rfl rfl ?_
        simp only [List.getElem_toArray, List.getElem_cons_succ, List.getElem_cons_zero, Act.put, List.setIfInBounds_toArray, List.set_cons_zero, List.set_cons_succ]
      iterate 1
        refine steps_read _ rfl rfl (fun w' hS => by skip; go_simp; first | rfl | (rw [if_pos (by omega)])) ?_
        simp only [List.getElem_toArray, List.getElem_cons_succ, List.getElem_cons_zero, Act.put, List.setIfInBounds_toArray, List.set_cons_zero, List.set_cons_succ]
      refine steps_end ?_
      go_wp2
      go_ret
      exact ⟨k, rfl, HP.out, HE.out.drew.base⟩
end Go.Proofs.YtcncdepjbhnknaaGreatDoor
