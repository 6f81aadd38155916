/- The parts LawUpdates of a proof, put together by program (merge.py). -/
import Derived.Test.YthbpadjhlkdpeaaGreatDoorG32
/- WeightUpdates' walk: by program (updates.py). -/
namespace Go.Proofs.YthbpadjhlkdpeaaGreatDoor
open Go.RowKit Go.Shelf
theorem longL_le {ps : List PP} (h : longL ps = false) : ps.length ≤ 520 ∧ (ps.length ≤ 512 → ∀ p ∈ ps, p.1.size ≤ 1000000 ∧ p.2.size ≤ 1000000) := by
  refine ⟨?_, fun hl p hp => by have := longL_sm h hl p hp; omega⟩
  unfold longL at h
  rw [Bool.or_eq_false_iff] at h
  have := of_decide_eq_false h.2
  omega

set_option maxRecDepth 100000 in
set_option maxHeartbeats 8000000 in
theorem updates_law {u v : Value} {ps os : List PP} {w : World} (hu : PL w u ps) (hv : PL w v os) (hf : PForm u) (hT : Tabs w) : Calls Tryz.prog 4 #[u, v] w (BoolPost w true) := by
  obtain ⟨i0, hi, hz0, hz1, hz2⟩ := info_parts info_part
  have hL1 := llong_any hu
  have hL2 := llong_any hv
  obtain ⟨p1, n1, c1, rfl⟩ : ∃ p n c, u = .slice p n c := by obtain ⟨p, c, h, _⟩ := hu; exact ⟨_, _, _, h⟩
  obtain ⟨p2, n2, c2, rfl⟩ : ∃ p n c, v = .slice p n c := by obtain ⟨p, c, h, _⟩ := hv; exact ⟨_, _, _, h⟩
  have HU := Lib.hid hu
  have HV := Lib.hid hv
  have HF := Lib.hid hf
  have HT := Lib.hid hT
  clear hu hv hT hf
  cases h0 : longL ps
  rotate_left
  · rw [h0] at hL1
    clear h0 hL2
    go_enter Tryz.func4, Tryz.ntmps4
    go_wp2_with fail
    refine hL1.mono ?_
    rintro e w1 ⟨rfl, rfl⟩
    go_wp2_with fail
    refine (alive_any _ HT.out).mono ?_
    rintro e w3 ⟨rfl, hb3⟩
    have HB3 := Lib.hid hb3
    clear hb3
    go_wp2
    go_ret
    exact ⟨rfl, HB3.out⟩
  cases h1 : longL os
  rotate_left
  · rw [h0] at hL1
    rw [h1] at hL2
    clear h0 h1
    go_enter Tryz.func4, Tryz.ntmps4
    go_wp2_with fail
    refine hL1.mono ?_
    rintro e w1 ⟨rfl, rfl⟩
    go_wp2_with fail
    refine hL2.mono ?_
    rintro e w1 ⟨rfl, rfl⟩
    go_wp2_with fail
    refine (alive_any _ HT.out).mono ?_
    rintro e w3 ⟨rfl, hb3⟩
    have HB3 := Lib.hid hb3
    clear hb3
    go_wp2
    go_ret
    exact ⟨rfl, HB3.out⟩
  obtain ⟨hl520, hs1⟩ := longL_le h0
  obtain ⟨_, hs2⟩ := longL_le h1
  have HSM : Hid (ps.length ≤ 512 → os.length ≤ 512 → ∀ p ∈ ps ++ os, p.1.size ≤ 1000000 ∧ p.2.size ≤ 1000000) := fun ha hb p hp => by
    rcases List.mem_append.1 hp with hp | hp
    · exact hs1 ha p hp
    · exact hs2 hb p hp
  rw [h0] at hL1
  rw [h1] at hL2
  clear h0 h1 hs1 hs2
  go_enter Tryz.func4, Tryz.ntmps4
  go_wp2_with fail
  refine hL1.mono ?_
  rintro e w1 ⟨rfl, rfl⟩
  go_wp2_with fail
  refine hL2.mono ?_
  rintro e w1 ⟨rfl, rfl⟩
  clear hL1 hL2
  have al := (Below.refl w.heap.size w).alloc (Nat.le_refl _) (.cells #[] 24)
  have hown0 : (w.alloc (.cells #[] 24)).ownsRow w.heap.size 24 2 (.slice (some ⟨w.heap.size, 0, none⟩) 0 0) 0 [] := World.ownsRow_lit w #[] 0 (Nat.le_refl _) (by simp [maxLen]) rfl
  have hUA := HU.out.after al (Nat.le_refl _)
  have hz3 : w.heap.size ≤ (w.alloc (.cells #[] 24)).heap.size := al.size
  have hm1 : ps.length ≤ maxLen := by unfold maxLen; omega
  have hm2 : ps.length * 32 ≤ 140737488355328 := by omega
  go_wp2_with (at_builtin; go_loud (refine wpList_append_parts rfl _ _ 34 rfl w.heap.size i0 Tryz.underlying34 hi hz0 hz1 hz2 _ rfl hown0 _ ps rfl hUA HF.out hm1 hm2 hz3 ?_); intro vo wo hOwn hgrow)
  have HOW := Lib.hid hOwn.pl
  have HBO : Hid (Below w.heap.size w wo) := ((Below.refl w.heap.size w).alloc (Nat.le_refl _) _).grown hgrow (by simp) (fun z hz => by have := (World.ownsRow.lt hown0 z hz).1; exact this)
  clear al hown0 hUA hz3 hm1 hm2 hOwn hgrow
  obtain ⟨pq, nq, cq, rfl⟩ : ∃ p n c, vo = .slice p n c := by obtain ⟨p, c, h, _⟩ := HOW.out; exact ⟨_, _, _, h⟩
  have HU1 := Lib.hid (HU.out.after HBO.out (Nat.le_refl _))
  have HV1 := Lib.hid (HV.out.after HBO.out (Nat.le_refl _))
  have HO1 := Lib.hid HOW.out
  have HB1 := Lib.hid HBO.out
  have HA1 := Lib.hid (Ats.nil wo)
  clear HOW HBO
  go_wp2_with fail
  refine (update_any HO1.out HV1.out HSM.out (HT.out.below HB1.out (Nat.le_refl _))).mono ?_
  rintro e w3 hE
  obtain ⟨hb, va, us, x1, y1, m1, rfl, hpl, heq⟩ := hE.form
  obtain ⟨pva, nva, cva, rfl⟩ : ∃ p n c, va = .slice p n c := by obtain ⟨p, c, h, _⟩ := hpl; exact ⟨_, _, _, h⟩
  have HE1 := Lib.hid heq
  have HA2 := Lib.hid ((HA1.out.after hb (Nat.le_refl _)).push x1 y1)
  have al := (Below.refl w3.heap.size w3).alloc (Nat.le_refl _) (pObj x1 y1)
  have hb2 := hb.trans (al.mono hb.size)
  have HB2 := Lib.hid (HB1.out.trans (hb2.mono HB1.out.size))
  have HU2 := Lib.hid (HU1.out.after hb2 (Nat.le_refl _))
  have HV2 := Lib.hid (HV1.out.after hb2 (Nat.le_refl _))
  have HO2 := Lib.hid (HO1.out.after hb2 (Nat.le_refl _))
  have HVA2 := Lib.hid (hpl.after al (Nat.le_refl _))
  clear hE hb heq al hb2 HA1 HB1 HU1 HV1 HO1 hpl
  go_wp2_with fail
  refine (rupdate_any HU2.out HV2.out HSM.out).mono ?_
  rintro e w4 hE
  obtain ⟨hb, vb, us2, x2, y2, m2, rfl, hpl, heq⟩ := hE.form
  obtain ⟨pvb, nvb, cvb, rfl⟩ : ∃ p n c, vb = .slice p n c := by obtain ⟨p, c, h, _⟩ := hpl; exact ⟨_, _, _, h⟩
  obtain ⟨rfl, rfl, rfl, rfl⟩ : us = us2 ∧ x1 = x2 ∧ y1 = y2 ∧ m1 = m2 := by
    have h := HE1.out.trans heq.symm
    simpa using h
  have HA3 := Lib.hid ((HA2.out.after hb (Nat.le_refl _)).push x1 y1)
  have al := (Below.refl w4.heap.size w4).alloc (Nat.le_refl _) (pObj x1 y1)
  have hb2 := hb.trans (al.mono hb.size)
  have HB3 := Lib.hid (HB2.out.trans (hb2.mono HB2.out.size))
  have HU3 := Lib.hid (HU2.out.after hb2 (Nat.le_refl _))
  have HV3 := Lib.hid (HV2.out.after hb2 (Nat.le_refl _))
  have HO3 := Lib.hid (HO2.out.after hb2 (Nat.le_refl _))
  have HVA3 := Lib.hid (HVA2.out.after hb2 (Nat.le_refl _))
  have HVB3 := Lib.hid (hpl.after al (Nat.le_refl _))
  clear hE hb heq al hb2 HA2 HB2 HU2 HV2 HO2 HVA2 hpl
  go_wp2_with fail
  refine (mean_any HO3.out HV3.out HSM.out (HT.out.below HB3.out (Nat.le_refl _))).mono ?_
  rintro e w5 hE
  obtain ⟨hb, x3, y3, m3, rfl, heq⟩ := hE.form
  have HE3 := Lib.hid heq
  have HA4 := Lib.hid ((HA3.out.after hb (Nat.le_refl _)).push x3 y3)
  have al := (Below.refl w5.heap.size w5).alloc (Nat.le_refl _) (pObj x3 y3)
  have hb2 := hb.trans (al.mono hb.size)
  have HB4 := Lib.hid (HB3.out.trans (hb2.mono HB3.out.size))
  have HU4 := Lib.hid (HU3.out.after hb2 (Nat.le_refl _))
  have HV4 := Lib.hid (HV3.out.after hb2 (Nat.le_refl _))
  have HO4 := Lib.hid (HO3.out.after hb2 (Nat.le_refl _))
  have HVA4 := Lib.hid (HVA3.out.after hb2 (Nat.le_refl _))
  have HVB4 := Lib.hid (HVB3.out.after hb2 (Nat.le_refl _))
  clear hE hb heq al hb2 HA3 HB3 HU3 HV3 HO3 HVA3 HVB3
  go_wp2_with fail
  refine (rmean_any HU4.out HV4.out HSM.out).mono ?_
  rintro e w6 hE
  obtain ⟨hb, x4, y4, m4, rfl, heq⟩ := hE.form
  obtain ⟨rfl, rfl, rfl⟩ : x3 = x4 ∧ y3 = y4 ∧ m3 = m4 := by
    have h := HE3.out.trans heq.symm
    simpa using h
  have HA5 := Lib.hid ((HA4.out.after hb (Nat.le_refl _)).push x3 y3)
  have al := (Below.refl w6.heap.size w6).alloc (Nat.le_refl _) (pObj x3 y3)
  have hb2 := hb.trans (al.mono hb.size)
  have HB5 := Lib.hid (HB4.out.trans (hb2.mono HB4.out.size))
  have HU5 := Lib.hid (HU4.out.after hb2 (Nat.le_refl _))
  have HV5 := Lib.hid (HV4.out.after hb2 (Nat.le_refl _))
  have HO5 := Lib.hid (HO4.out.after hb2 (Nat.le_refl _))
  have HVA5 := Lib.hid (HVA4.out.after hb2 (Nat.le_refl _))
  have HVB5 := Lib.hid (HVB4.out.after hb2 (Nat.le_refl _))
  clear hE hb heq al hb2 HA4 HB4 HU4 HV4 HO4 HVA4 HVB4
  go_wp2_with fail
  refine (same_any HVA5.out HVB5.out).mono ?_
  rintro e w7 ⟨rfl, hb⟩
  have HB6 := Lib.hid (HB5.out.trans (hb.mono HB5.out.size))
  have HU6 := Lib.hid (HU5.out.after hb (Nat.le_refl _))
  have HO6 := Lib.hid (HO5.out.after hb (Nat.le_refl _))
  have HVA6 := Lib.hid (HVA5.out.after hb (Nat.le_refl _))
  have HVB6 := Lib.hid (HVB5.out.after hb (Nat.le_refl _))
  have HA6 := Lib.hid (HA5.out.after hb (Nat.le_refl _))
  clear hb
  have q0 := HA6.out.c0 3 rfl
  have q1 := HA6.out.c1 3 rfl
  have q2 := HA6.out.c0 2 rfl
  have q3 := HA6.out.c1 2 rfl
  have q4 := HA6.out.c0 1 rfl
  have q5 := HA6.out.c1 1 rfl
  have q6 := HA6.out.c0 0 rfl
  have q7 := HA6.out.c1 0 rfl
  go_wp2_with fail
  refine (same_yes x3 y3 m3 _).mono ?_
  rintro e w8 ⟨rfl, hb⟩
  have HB7 := Lib.hid (HB6.out.trans (hb.mono HB6.out.size))
  have HU7 := Lib.hid (HU6.out.after hb (Nat.le_refl _))
  have HO7 := Lib.hid (HO6.out.after hb (Nat.le_refl _))
  have HVA7 := Lib.hid (HVA6.out.after hb (Nat.le_refl _))
  have HVB7 := Lib.hid (HVB6.out.after hb (Nat.le_refl _))
  clear hb q0 q1 q2 q3 q4 q5 q6 q7
  go_wp2_with fail
  refine (same_any HO7.out HU7.out).mono ?_
  rintro e w9 ⟨rfl, hb⟩
  have HB8 := Lib.hid (HB7.out.trans (hb.mono HB7.out.size))
  have HU8 := Lib.hid (HU7.out.after hb (Nat.le_refl _))
  have HO8 := Lib.hid (HO7.out.after hb (Nat.le_refl _))
  have HVA8 := Lib.hid (HVA7.out.after hb (Nat.le_refl _))
  have HVB8 := Lib.hid (HVB7.out.after hb (Nat.le_refl _))
  clear hb
  go_wp2_with fail
  refine (alive_any _ (HT.out.below HB8.out (Nat.le_refl _))).mono ?_
  rintro e w10 ⟨rfl, hb⟩
  have HB9 := Lib.hid (HB8.out.trans (hb.mono HB8.out.size))
  clear hb
  go_wp2
  go_ret
  exact ⟨rfl, HB9.out⟩
end Go.Proofs.YthbpadjhlkdpeaaGreatDoor
