/- The parts RMiss, Copy, LawMisses, DRowList, DRowSight, LawMissesLift of a proof, put together by program (merge6.py). -/
import Derived.Test.YtcncdepjbhnknaaGreatDoorR07
import Derived.Test.YtcncdepjbhnknaaGreatDoorK01
import Derived.Test.YtcncdepjbhnknaaGreatDoorH11
import Derived.Test.YtcncdepjbhnknaaGreatDoorR01
import Derived.Test.YtcncdepjbhnknaaGreatDoorH21
import Derived.Test.YtcncdepjbhnknaaGreatDoorH22
import Derived.Deep.SlicePairs
set_option linter.unusedVariables false
set_option linter.unusedSimpArgs false
namespace Go.Proofs.YtcncdepjbhnknaaGreatDoor
open Go.RowKit Go.Shelf
attribute [local go_sem ↓] Go.wp_at_zero Go.wp_at_succ

theorem rmul_ans {a b : Rat} {s t u v : ByteArray} (ha : IsP a s t) (hb : IsP b u v) (w : World) :
    Calls Tryz.prog 78 #[pV s t, pV u v] w (PartPost (Ans (a * b)) w) := by
  refine (rmul_rat s t u v w ha.le.1 ha.le.2 hb.le.1 hb.le.2).mono ?_
  rintro e w' ⟨x, y, n, rfl, h, hB⟩
  rcases h with ⟨h, _⟩ | ⟨_, h⟩
  · rw [ha.oks hb] at h; cases h
  · rw [ha.rat, hb.rat] at h
    exact ⟨x, y, n, rfl, h, hB⟩
set_option maxRecDepth 100000 in
set_option maxHeartbeats 8000000 in
theorem rmiss_any {v v2 : Value} {bs : List BB} {ps : List PP} {w : World} (hv : BL w v bs) (hz : LimB bs) (hv2 : PL w v2 ps) (hz2 : LimP ps) :
    Calls Tryz.prog 43 #[v, v2] w (PartPost (MissP bs ps) w) := by
  obtain ⟨n, hn⟩ : ∃ n, bs.length = n := ⟨_, rfl⟩
  obtain ⟨p, c, rfl⟩ : ∃ p c, v = .slice p n c := by obtain ⟨p, c, h, _⟩ := id hv; exact ⟨_, _, by rw [← hn]; exact h⟩
  obtain ⟨m, hm⟩ : ∃ n, ps.length = n := ⟨_, rfl⟩
  obtain ⟨p2, c2, rfl⟩ : ∃ p c, v2 = .slice p m c := by obtain ⟨p, c, h, _⟩ := id hv2; exact ⟨_, _, by rw [← hm]; exact h⟩
  have HPP : Hid (m ≠ 0 → ∃ b off, p2 = some ⟨b, off, none⟩ ∧ b < w.heap.size ∧ ∀ W, Below w.heap.size w W → PAt W b off ps) := fun h0 => by
    obtain ⟨_, _, h1, _, _, h4⟩ := hv2
    injection h1 with e1 e2 e3
    obtain ⟨b, off, h5, h6, h7⟩ := h4 (List.ne_nil_of_length_pos (by omega))
    exact ⟨b, off, e1.trans h5, h6, fun W hW => h7.below hW h6⟩
  have hc2 : m ≤ c2 ∧ c2 ≤ 9223372036854775807 := by
    obtain ⟨_, _, h1, h2, h3, _⟩ := hv2
    injection h1 with e1 e2 e3
    unfold maxLen at h3
    omega
  obtain ⟨hm1, hm2⟩ := hc2
  have HL := Lib.hid hn
  have HM := Lib.hid hm
  have HV := Lib.hid hv
  have HZ := Lib.hid hz
  have HZ2 := Lib.hid hz2
  clear hv hn hz hv2 hz2 hm
  go_enter Tryz.func43, Tryz.ntmps43
  have HE0 := Lib.hid ((Env.start w).push (pObj ⟨#[]⟩ ⟨#[]⟩) rfl)
  go_wp2_with fail
  refine (rcurve_any (HV.out.after HE0.out.base (Nat.le_refl _)) HZ.out).mono ?_
  rintro e w1 ⟨r, rfl, hr, hb⟩
  have HE1 := Lib.hid (HE0.out.step hb)
  have HR := Lib.hid hr
  clear hb hr HE0
  cases r
  · have HNO : Hid (¬ MissOk bs ps) := fun h => by have := HR.out.2 h.1.1; cases this
    skip
    have HA : Hid (MissP bs ps ⟨#[]⟩ ⟨#[]⟩ 2) := .inl ⟨HNO.out, rfl, rfl, rfl⟩
    skip
    -- ahead of a walk: what the first block holds
    have r0 := HE1.out.cell 0 0 rfl rfl
    have r1 := HE1.out.cell 0 1 rfl rfl
    have f0 := HE1.out.free 0 0 rfl
    have f1 := HE1.out.free 0 1 rfl
    go_wp2
    have HE9 := Lib.hid (HE1.out.fill (.string ⟨#[]⟩) (.string ⟨#[]⟩))
    skip
    have q0 := HE9.out.cell 0 0 (v := .string ⟨#[]⟩) rfl rfl
    have q1 := HE9.out.cell 0 1 (v := .string ⟨#[]⟩) rfl rfl
    exact bodyPost_ret (v := .tuple #[.agg #[.string ⟨#[]⟩, .string ⟨#[]⟩], .int .i64 2]) (by simp [results, Tryz.f43, go_sem, q0, q1]) rfl ⟨⟨#[]⟩, ⟨#[]⟩, 2, rfl, HA.out, HE9.out.base⟩
  have HC := Lib.hid (HR.out.1 rfl)
  clear HR
  by_cases h512 : (512 : Int) < (m : Int)
  · have HNO : Hid (¬ MissOk bs ps) := fun h => by have := h.2; rw [HM.out] at this; omega
    skip
    have HA : Hid (MissP bs ps ⟨#[]⟩ ⟨#[]⟩ 2) := .inl ⟨HNO.out, rfl, rfl, rfl⟩
    skip
    -- ahead of a walk: what the first block holds
    have r0 := HE1.out.cell 0 0 rfl rfl
    have r1 := HE1.out.cell 0 1 rfl rfl
    have f0 := HE1.out.free 0 0 rfl
    have f1 := HE1.out.free 0 1 rfl
    go_wp2
    have HE9 := Lib.hid (HE1.out.fill (.string ⟨#[]⟩) (.string ⟨#[]⟩))
    skip
    have q0 := HE9.out.cell 0 0 (v := .string ⟨#[]⟩) rfl rfl
    have q1 := HE9.out.cell 0 1 (v := .string ⟨#[]⟩) rfl rfl
    exact bodyPost_ret (v := .tuple #[.agg #[.string ⟨#[]⟩, .string ⟨#[]⟩], .int .i64 2]) (by simp [results, Tryz.f43, go_sem, q0, q1]) rfl ⟨⟨#[]⟩, ⟨#[]⟩, 2, rfl, HA.out, HE9.out.base⟩
  go_wp2_with fail
  go_loopw [7] (fun i wr => ∃ k : Nat, i = .int .i64 k ∧ k ≤ m ∧ Hid (∀ j (h : j < ps.length), j < k → smallP 300 ps[j] = true) ∧ Hid (Env w.heap.size w [(w.heap.size, pObj ⟨#[]⟩ ⟨#[]⟩)] [] wr)) (fun i _ => m - (intOf i).toNat)
  case atStart => exact ⟨0, rfl, Nat.zero_le _, fun j _ h => by omega, HE1⟩
  case round =>
    obtain ⟨k, rfl, hk, HK, HE⟩ := hrel
    clear HE1
    by_cases hlt : k < m
    · obtain ⟨b, off, rfl, hbl, hat⟩ := HPP.out (by omega)
      have HKP : Hid (k < ps.length) := by show k < ps.length; rw [HM.out]; exact hlt
      obtain ⟨e0, e1⟩ := hat wr HE.out.base k HKP.out
      have HZK := HZ2.out _ (List.getElem_mem HKP.out)
      obtain ⟨z, hz⟩ : ∃ z, ps[k]'(HKP.out) = z := ⟨_, rfl⟩
      rw [hz] at e0 e1 HZK
      have HQ := Lib.hid hz
      obtain ⟨s, t⟩ := z
      dsimp only at e0 e1 HZK
      have HZK2 := Lib.hid HZK
      have i0' : (0 : Int) ≤ (k : Int) := by omega
      have i1' : (k : Int) < (m : Int) := by omega
      clear hat hz HZK
      go_wp2_with fail
      refine (rdeep_any s t HZK2.out.1 HZK2.out.2 _).mono ?_
      rintro e w2 ⟨rfl, hb⟩
      have HE2 := Lib.hid (HE.out.step hb)
      clear hb HE e0 e1
      cases hsm : smallP 300 (s, t)
      · have HNO : Hid (¬ MissOk bs ps) := fun h => by
          have := all_get h.1.2 HKP.out
          rw [HQ.out, hsm] at this
          cases this
        clear hsm
        skip
        have HA : Hid (MissP bs ps ⟨#[]⟩ ⟨#[]⟩ 2) := .inl ⟨HNO.out, rfl, rfl, rfl⟩
        skip
        -- ahead of a walk: what the first block holds
        have r0 := HE2.out.cell 0 0 rfl rfl
        have r1 := HE2.out.cell 0 1 rfl rfl
        have f0 := HE2.out.free 0 0 rfl
        have f1 := HE2.out.free 0 1 rfl
        go_wp2
        have HE9 := Lib.hid (HE2.out.fill (.string ⟨#[]⟩) (.string ⟨#[]⟩))
        skip
        have q0 := HE9.out.cell 0 0 (v := .string ⟨#[]⟩) rfl rfl
        have q1 := HE9.out.cell 0 1 (v := .string ⟨#[]⟩) rfl rfl
        exact bodyPost_ret (v := .tuple #[.agg #[.string ⟨#[]⟩, .string ⟨#[]⟩], .int .i64 2]) (by simp [results, Tryz.f43, go_sem, q0, q1]) rfl ⟨⟨#[]⟩, ⟨#[]⟩, 2, rfl, HA.out, HE9.out.base⟩
      · have HK2 : Hid (∀ j (h : j < ps.length), j < k + 1 → smallP 300 ps[j] = true) := fun j h1 h2 => by
          rcases Nat.lt_or_ge j k with h3 | h3
          · exact HK.out j h1 h3
          · obtain rfl : j = k := by omega
            rw [HQ.out]
            exact hsm
        clear hsm
        go_wp2
        go_roundw
        case rel => exact ⟨k + 1, by go_num, by omega, HK2, HE2⟩
        case measure => simp [intOf]; omega
    · have hkm : k = m := by omega
      have HOK : Hid (MissOk bs ps) := ⟨⟨HC.out, List.all_eq_true.2 fun p hp => by
        obtain ⟨j, hj, rfl⟩ := List.getElem_of_mem hp
        exact HK.out j hj (by rw [HM.out] at hj; omega)⟩, by rw [HM.out]; omega⟩
      clear hkm HK
      go_wp2_with fail
      refine (rone_any _).mono ?_
      rintro e w3 ⟨rfl, hb⟩
      have HE3 : Hid (Env w.heap.size w [(w3.heap.size, pObj ⟨#[49]⟩ ⟨#[49]⟩), (w.heap.size, pObj ⟨#[]⟩ ⟨#[]⟩)] [] (w3.alloc (pObj ⟨#[49]⟩ ⟨#[49]⟩))) := (HE.out.step hb).push _ rfl
      clear hb HE
      go_wp2_with fail
      obtain ⟨o, ho⟩ : ∃ o, w3.heap.size = o := ⟨_, rfl⟩
      obtain ⟨w4, hw4⟩ : ∃ z, w3.alloc (pObj ⟨#[49]⟩ ⟨#[49]⟩) = z := ⟨_, rfl⟩
      rw [ho, hw4] at HE3
      rw [ho, hw4]
      clear ho hw4
      go_loopw [9] (fun i wr => ∃ (k : Nat) (a : Rat) (x y : ByteArray), i = .int .i64 k ∧ k ≤ m ∧ Hid (IsP a x y) ∧ Hid (MissL bs ps k a) ∧ Hid (Env w.heap.size w [(o, pObj x y), (w.heap.size, pObj ⟨#[]⟩ ⟨#[]⟩)] [] wr)) (fun i _ => m - (intOf i).toNat)
      case atStart => exact ⟨0, 1, _, _, rfl, Nat.zero_le _, isP_one, MissL.zero bs ps, HE3⟩
      case round =>
        obtain ⟨k, a, x, y, rfl, hk, HIA, HML, HE⟩ := hrel
        clear HE3
        by_cases hlt2 : k < m
        · obtain ⟨b, off, rfl, hbl, hat⟩ := HPP.out (by omega)
          have HKP : Hid (k < ps.length) := by show k < ps.length; rw [HM.out]; exact hlt2
          obtain ⟨e0, e1⟩ := hat wr HE.out.base k HKP.out
          have HZK := HZ2.out _ (List.getElem_mem HKP.out)
          have hsm := all_get HOK.out.1.2 HKP.out
          obtain ⟨z, hz⟩ : ∃ z, ps[k]'(HKP.out) = z := ⟨_, rfl⟩
          rw [hz] at e0 e1 HZK hsm
          have HQ := Lib.hid hz
          obtain ⟨s, t⟩ := z
          dsimp only at e0 e1 HZK
          have HZK2 := Lib.hid HZK
          have HSM := Lib.hid hsm
          have i0' : (0 : Int) ≤ (k : Int) := by omega
          have i1' : (k : Int) < (m : Int) := by omega
          clear hat hz HZK hsm
          go_wp2_with fail
          refine (rchance_any (HV.out.after HE.out.base (Nat.le_refl _)) HZ.out HZK2.out.1 HZK2.out.2).mono ?_
          rintro e w5 ⟨x1, y1, n1, rfl, hA, hb⟩
          obtain ⟨rfl, r, hr1, hr2⟩ : n1 = 0 ∧ ∃ r, ChanceR bs.length (cR bs) (hR bs) (ratP s t) r ∧ IsP r x1 y1 := by
            rcases hA with ⟨h, _⟩ | ⟨_, h1, h2⟩
            · exact absurd ⟨HC.out, HSM.out⟩ h
            · exact ⟨h1, h2⟩
          obtain ⟨isq, hz300⟩ := isP_small HSM.out
          dsimp only at isq hz300
          have h1 := hr1.top HC.out.conc'
          have h0 := hr1.nn HC.out.conc' isq.nn
          obtain ⟨x2, y2, hx2⟩ := not_isP h0 h1 (chance_size HC.out isq.nn hz300 hr1)
          have CT1 := Lib.hid (fun W => rnot_to hr2 h1 hx2 W)
          have CT2 := Lib.hid (fun W => rmul_ans HIA.out hx2 W)
          have HR1 : Hid (ChanceR bs.length (cR bs) (hR bs) (ratP (ps[k]'(HKP.out)).1 (ps[k]'(HKP.out)).2) r) := by rw [HQ.out]; exact hr1
          obtain ⟨g, hg⟩ : ∃ g, w5.heap.size = g := ⟨_, rfl⟩
          obtain ⟨w6, hw6⟩ : ∃ z, w5.alloc (pObj x1 y1) = z := ⟨_, rfl⟩
          have HE6 : Hid (Env w.heap.size w [(o, pObj x y), (g, pObj x1 y1), (w.heap.size, pObj ⟨#[]⟩ ⟨#[]⟩)] [] w6) := by rw [← hw6]; exact ((HE.out.step hb).push (pObj x1 y1) hg.symm).only [1, 0, 2] _ rfl (by decide)
          clear hb hA e0 e1 hr1 hr2 isq hz300 h0 h1 hx2 HE
          go_wp2_with fail
          try rw [hg]
          try rw [hw6]
          clear hg hw6
          refine psteps_plain [(1, 0), (1, 1), (0, 2), (1, 3), (1, 4), (0, 5), (0, 6), (2, 7), (2, 8), (2, 9), (0, 10), (2, 11)] (Env w.heap.size w [(o, pObj x y), (g, pObj x1 y1), (w.heap.size, pObj ⟨#[]⟩ ⟨#[]⟩)] []) (fun i => 7 ≤ i && i < 12)
            (by kernel_rfl) (by kernel_rfl) (fun j hj => by have h : 12 ≤ j := hj; simp; omega) (fun _ _ o _ _ h => by cases o <;> exact h) HE6.out.drew ?_
          obtain ⟨w7, hw7⟩ : ∃ z, w6.drew = z := ⟨_, rfl⟩
          have HE7 : Hid (Env w.heap.size w [(o, pObj x y), (g, pObj x1 y1), (w.heap.size, pObj ⟨#[]⟩ ⟨#[]⟩)] [] w7) := by rw [← hw7]; exact HE6.out.drew
          rw [hw7]
          clear hw7 HE6
          skip
          iterate 2
            refine psteps_read _ rfl rfl (fun w' hS => by have c0 := hS.cell 0 0 (v := .string x) rfl rfl; have c1 := hS.cell 0 1 (v := .string y) rfl rfl; have d0 := hS.cell 1 0 (v := .string x1) rfl rfl; have d1 := hS.cell 1 1 (v := .string y1) rfl rfl; go_simp; first | rfl | (rw [if_pos (by omega)])) ?_
            simp only [List.getElem_toArray, List.getElem_cons_succ, List.getElem_cons_zero, Act.put, List.setIfInBounds_toArray, List.set_cons_zero, List.set_cons_succ]
          refine psteps_write rfl rfl fun K hK => ?_
          go_simp
          go_at_call 95
          have HEC := HE7
          refine (CT1.out _).mono ?_
          rintro e w8 ⟨rfl, hb⟩
          have HE8 := Lib.hid (HE7.out.step hb)
          refine hK _ _ (.inr HE8.out) ?_
          clear hK K hb HEC
          iterate 2
            refine psteps_read _ rfl rfl (fun w' hS => by skip; go_simp; first | rfl | (rw [if_pos (by omega)])) ?_
            simp only [List.getElem_toArray, List.getElem_cons_succ, List.getElem_cons_zero, Act.put, List.setIfInBounds_toArray, List.set_cons_zero, List.set_cons_succ]
          refine psteps_write rfl rfl fun K hK => ?_
          go_simp
          go_at_call 81
          have HEC := HE8
          refine (rsure_any x2 y2 0 _).mono ?_
          rintro e w9 ⟨rfl, hb⟩
          have HE9 := Lib.hid (HE8.out.step hb)
          refine hK _ _ (.inr HE9.out) ?_
          clear hK K hb HEC
          refine psteps_write rfl rfl fun K hK => ?_
          go_simp
          go_at_call 78
          refine (CT2.out _).mono ?_
          rintro e w10 ⟨x3, y3, n3, rfl, hA, hb⟩
          have HE10 := Lib.hid (HE9.out.step hb)
          have HA := Lib.hid hA
          refine hK _ _ (.inr HE10.out) ?_
          clear hK K hb hA
          skip
          iterate 3
            refine psteps_pure _ rfl rfl (fun w' _ => by go_simp; rfl) ?_
            simp only [List.getElem_toArray, List.getElem_cons_succ, List.getElem_cons_zero, Act.put, List.setIfInBounds_toArray, List.set_cons_zero, List.set_cons_succ]
          have r0 := HE10.out.cell 0 0 rfl rfl
          have r1 := HE10.out.cell 0 1 rfl rfl
          have f0 := HE10.out.free 0 0 rfl
          have f1 := HE10.out.free 0 1 rfl
          refine psteps_write rfl rfl fun K hK => ?_
          go_simp
          have HE11 := Lib.hid (HE10.out.fill (.string x3) (.string y3))
          refine hK _ _ (.inl rfl) ?_
          clear hK K r0 r1 f0 f1
          skip
          iterate 1
            refine psteps_pure _ rfl rfl (fun w' _ => by go_simp; rfl) ?_
            simp only [List.getElem_toArray, List.getElem_cons_succ, List.getElem_cons_zero, Act.put, List.setIfInBounds_toArray, List.set_cons_zero, List.set_cons_succ]
          refine psteps_end ?_
          clear HE7 HE8 HE9 HE10 CT1 CT2
          obtain ⟨w12, hw12⟩ : ∃ z, (w10.setCell ⟨o, 0, none⟩ (.string x3)).setCell ⟨o, 1, none⟩ (.string y3) = z := ⟨_, rfl⟩
          rw [hw12] at HE11 ⊢
          clear hw12
          rcases HA.out with ⟨hi3, rfl⟩ | ⟨hnf, _, _, rfl⟩
          · have HI3 := Lib.hid hi3
            have HML2 : Hid (MissL bs ps (k + 1) (a * (1 - r))) := HML.out.step HKP.out HR1.out hi3.fits
            have HE12 := Lib.hid (HE11.out.only [0, 2] _ rfl (by decide))
            clear hi3 HA
            go_wp2
            go_roundw
            case rel => exact ⟨k + 1, _, x3, y3, by go_num, by omega, HI3, HML2, HE12⟩
            case measure => simp [intOf]; omega
          · have HAA : Hid (MissP bs ps ⟨#[]⟩ ⟨#[]⟩ 4) := .inr ⟨HOK.out, HML.out.stop HC.out HKP.out HR1.out hnf⟩
            have HE12 := Lib.hid (HE11.out.only [2, 0] _ rfl (by decide))
            clear hnf HA
            skip
            -- ahead of a walk: what the first block holds
            have r0 := HE12.out.cell 0 0 rfl rfl
            have r1 := HE12.out.cell 0 1 rfl rfl
            have f0 := HE12.out.free 0 0 rfl
            have f1 := HE12.out.free 0 1 rfl
            go_wp2
            have HE9 := Lib.hid (HE12.out.fill (.string ⟨#[]⟩) (.string ⟨#[]⟩))
            skip
            have q0 := HE9.out.cell 0 0 (v := .string ⟨#[]⟩) rfl rfl
            have q1 := HE9.out.cell 0 1 (v := .string ⟨#[]⟩) rfl rfl
            exact bodyPost_ret (v := .tuple #[.agg #[.string ⟨#[]⟩, .string ⟨#[]⟩], .int .i64 4]) (by simp [results, Tryz.f43, go_sem, q0, q1]) rfl ⟨⟨#[]⟩, ⟨#[]⟩, 4, rfl, HAA.out, HE9.out.base⟩
        · have hkm : k = m := by omega
          have HAA : Hid (MissP bs ps x y 0) := .inr ⟨HOK.out, by
            have h := HML.out
            rw [hkm, ← HM.out] at h
            exact h.done HIA.out⟩
          have HE1 := Lib.hid (HE.out.only [1, 0] _ rfl (by decide))
          clear hkm HML
          have c0 := HE1.out.cell 1 0 (v := .string x) rfl rfl
          have c1 := HE1.out.cell 1 1 (v := .string y) rfl rfl
          skip
          -- ahead of a walk: what the first block holds
          have r0 := HE1.out.cell 0 0 rfl rfl
          have r1 := HE1.out.cell 0 1 rfl rfl
          have f0 := HE1.out.free 0 0 rfl
          have f1 := HE1.out.free 0 1 rfl
          go_wp2
          have HE9 := Lib.hid (HE1.out.fill (.string x) (.string y))
          skip
          have q0 := HE9.out.cell 0 0 (v := .string x) rfl rfl
          have q1 := HE9.out.cell 0 1 (v := .string y) rfl rfl
          exact bodyPost_ret (v := .tuple #[.agg #[.string x, .string y], .int .i64 0]) (by simp [results, Tryz.f43, go_sem, q0, q1]) rfl ⟨x, y, 0, rfl, HAA.out, HE9.out.base⟩
end Go.Proofs.YtcncdepjbhnknaaGreatDoor
namespace Go.Proofs.YtcncdepjbhnknaaGreatDoor
open Go.RowKit Go.Shelf

def SrcL (w : World) (v : Value) (m : Nat) (cs : List Value) : Prop :=
  (v = .slice none 0 0 ∧ m = 0 ∧ cs = []) ∨ ∃ ad c, v = .slice (some ad) m c ∧ ∀ (j : Nat) (u : Value), cs[j]? = some u → w.cell? (ad.add j) = some u
theorem wpList_append_src {P : Program} {w : World} {ops : Array Oper} {rest : List Oper} {o : Oper} {a : Act} {Q : Exit → Act → World → Prop} (hgd : o.guard = none) (s x : Operand) (t : TypeId)
    (ho : o.op = .call { callee := .builtin .append, args := #[s, x], argTypes := #[t, t] })
    (base : Nat) (e : TypeId) (i : TypeInfo) (z : Value) (size bytes : Nat) (ht : P.underlying t = some (.slice e)) (hi : P.info? e = some i) (hz : i.zero = some z)
    (hsize : i.size = size) (hby : i.bytes = bytes) (hzs : z.cells.size = size) (hsz : 0 < size)
    (v : Value) (n : Nat) (xs : List Value) (hs : a.eval s = v) (hown : w.ownsRow base e size v n xs)
    (v2 : Value) (m : Nat) (cs : List Value) (hx : a.eval x = v2) (hsrc : SrcL w v2 m cs) (hl : cs.length = m * size) (h1 : ∀ u ∈ cs, u.oneCell' = true)
    (h63 : n + m ≤ maxLen) (hbytes : (n + m) * bytes ≤ 140737488355328) (hbase : base ≤ w.heap.size)
    (h : ∀ v' w', w'.ownsRow base e size v' (n + m) (xs ++ cs) → w.grownBy w' v.ownBlock → wpList P ops Q rest (a.put o.dst v') w') : wpList P ops Q (o :: rest) a w := by
  rcases hsrc with ⟨rfl, rfl, rfl⟩ | ⟨ad, c, rfl, hat⟩
  · exact wpList_append_own_none hgd s x t ho base e i size ht hi v n xs hs hown hx (h v w (by simpa using hown) ⟨rfl, rfl, rfl, Nat.le_refl _, fun _ _ _ => rfl⟩)
  · exact wpList_append_own w hgd s x t ho base e i z size bytes ht hi hz hsize hby hzs hsz v n xs hs hown ad m c cs hx hl hat h1 h63 hbytes hbase fun v' w' h2 h3 _ => h v' w' h2 h3
theorem pcells_one : ∀ (ps : List PP), ∀ u ∈ pcells ps, u.oneCell' = true
  | [], u, h => by cases h
  | p :: ps, u, h => by
    rcases List.mem_cons.1 h with rfl | h
    · rfl
    · rcases List.mem_cons.1 h with rfl | h
      · rfl
      · exact pcells_one ps u h
theorem cells_by {w : World} {b off k m : Nat} {cs : List Value} (hk : 0 < k) (hl : cs.length = m * k) (h : ∀ q, q < m → ∀ r, r < k → w.cell? ⟨b, off + q * k + r, none⟩ = cs[q * k + r]?) :
    ∀ (j : Nat) (u : Value), cs[j]? = some u → w.cell? ((⟨b, off, none⟩ : Addr).add j) = some u := fun j u hu => by
  have hj : j < m * k := by
    rw [← hl]
    rcases Nat.lt_or_ge j cs.length with h' | h'
    · exact h'
    · rw [List.getElem?_eq_none h'] at hu; cases hu
  have h1 := h (j / k) (Nat.div_lt_of_lt_mul (by rw [Nat.mul_comm]; exact hj)) (j % k) (Nat.mod_lt _ hk)
  have e : j / k * k + j % k = j := by rw [Nat.mul_comm]; exact Nat.div_add_mod j k
  rw [Nat.add_assoc, e] at h1
  rw [add_lit', h1]
  exact hu
theorem PL.src {w : World} {v : Value} {ps : List PP} (h : PL w v ps) (hf : PForm v) : SrcL w v ps.length (pcells ps) := by
  obtain ⟨p, cap, rfl, h1, h2, h3⟩ := h
  rcases hf with hf | ⟨ad, m, c, hf⟩
  · injection hf with e1 e2 e3
    obtain rfl : ps = [] := List.eq_nil_of_length_eq_zero e2
    subst e1; subst e3
    exact .inl ⟨rfl, rfl, rfl⟩
  · injection hf with e1 e2 e3
    subst e1
    refine .inr ⟨ad, cap, rfl, ?_⟩
    by_cases hn : ps = []
    · subst hn
      exact fun j u hu => by simp [pcells] at hu
    · obtain ⟨b, off, hb, _, hat⟩ := h3 hn
      obtain rfl := Option.some.inj hb
      refine cells_by (k := 2) (m := ps.length) (by decide) (pcells_length ps) fun q hq r hr => ?_
      obtain ⟨a1, a2⟩ := hat q hq
      obtain ⟨b1, b2⟩ := pcells_at ps q hq
      match r, hr with
      | 0, _ => rw [Nat.add_zero, Nat.add_zero, a1, b1]
      | 1, _ => rw [a2, b2]
theorem SL.src {w : World} {v : Value} {l : List Sg} (h : SL w v l) (hf : PForm v) : SrcL w v l.length (scells l) := by
  obtain ⟨p, cap, rfl, h1, h2, h3⟩ := h
  rcases hf with hf | ⟨ad, m, c, hf⟩
  · injection hf with e1 e2 e3
    obtain rfl : l = [] := List.eq_nil_of_length_eq_zero e2
    subst e1; subst e3
    exact .inl ⟨rfl, rfl, rfl⟩
  · injection hf with e1 e2 e3
    subst e1
    refine .inr ⟨ad, cap, rfl, ?_⟩
    by_cases hn : l = []
    · subst hn
      exact fun j u hu => by simp [scells] at hu
    · obtain ⟨b, off, hb, _, hat⟩ := h3 hn
      obtain rfl := Option.some.inj hb
      refine cells_by (k := 5) (m := l.length) (by decide) (scells_length l) fun q hq r hr => ?_
      obtain ⟨a0, a1, a2, a3, a4⟩ := hat q hq
      obtain ⟨b0, b1, b2, b3, b4⟩ := scells_at l q hq
      rw [sAt_get hq] at b0 b1 b2 b3 b4
      match r, hr with
      | 0, _ => rw [Nat.add_zero, Nat.add_zero, a0, b0]
      | 1, _ => rw [a1, b1]
      | 2, _ => rw [a2, b2]
      | 3, _ => rw [a3, b3]
      | 4, _ => rw [a4, b4]
theorem SrcL.after {w w' : World} {v : Value} {m : Nat} {cs : List Value} (h : SrcL w v m cs) (hb : Below w.heap.size w w') : SrcL w' v m cs := by
  rcases h with h | ⟨ad, c, rfl, hat⟩
  · exact .inl h
  · refine .inr ⟨ad, c, rfl, fun j u hu => ?_⟩
    have h1 := hat j u hu
    exact (hb.cell (World.block_lt_of_cell? _ _ h1)).trans h1
end Go.Proofs.YtcncdepjbhnknaaGreatDoor
namespace Go.Proofs.YtcncdepjbhnknaaGreatDoor
open Go.RowKit Go.Shelf
attribute [local go_sem ↓] Go.wp_at_zero Go.wp_at_succ

theorem info_partG : (Tryz.prog.info? 46).map (fun i => (i.zero, i.size, i.bytes)) = some (some (.agg #[.string ⟨#[]⟩, .string ⟨#[]⟩]), 2, 32) := by kernel_rfl
theorem PL.elem {w : World} {p : Option Addr} {n c : Nat} {ps : List PP} (h : PL w (.slice p n c) ps) (hn : ps.length = n) (h0 : 0 < n) :
    ∃ b off, p = some ⟨b, off, none⟩ ∧ ∀ W, Below w.heap.size w W → ∀ k (hk : k < ps.length), W.cell? ⟨b, off + k * 2, none⟩ = some (.string ps[k].1) ∧ W.cell? ⟨b, off + k * 2 + 1, none⟩ = some (.string ps[k].2) := by
  obtain ⟨p', c', hv, _, _, h4⟩ := h
  injection hv with e1 e2 e3
  obtain ⟨b, off, rfl, hb, hat⟩ := h4 (List.ne_nil_of_length_pos (by omega))
  exact ⟨b, off, e1, fun W hW k hk => (hat.below hW hb) k hk⟩
set_option maxRecDepth 100000 in
set_option maxHeartbeats 8000000 in
theorem misses_law {v v2 : Value} {bs : List BB} {ps : List PP} {w : World} (hv : BL w v bs) (hv2 : PL w v2 ps) (hf : PForm v2) (hD : DetV w) (hT : Tabs w) :
    Calls Tryz.prog 11 #[v, v2] w (BoolPost w true) := by
  obtain ⟨n, hn⟩ : ∃ n, bs.length = n := ⟨_, rfl⟩
  obtain ⟨p, c, rfl⟩ : ∃ p c, v = .slice p n c := by obtain ⟨p, c, h, _⟩ := id hv; exact ⟨_, _, by rw [← hn]; exact h⟩
  obtain ⟨m, hm⟩ : ∃ n, ps.length = n := ⟨_, rfl⟩
  obtain ⟨p2, c2, rfl⟩ : ∃ p c, v2 = .slice p m c := by obtain ⟨p, c, h, _⟩ := id hv2; exact ⟨_, _, by rw [← hm]; exact h⟩
  have hmc : m ≤ c2 ∧ c2 ≤ 9223372036854775807 := by
    obtain ⟨_, _, h1, h2, h3, _⟩ := id hv2
    injection h1 with e1 e2 e3
    unfold maxLen at h3
    omega
  obtain ⟨hmc1, hmc2⟩ := hmc
  have HV := Lib.hid hv
  have HV2 := Lib.hid hv2
  have HFM := Lib.hid hf
  have HM := Lib.hid hm
  have HT := Lib.hid hT
  have HD := Lib.hid hD
  clear hv hn hT hD hv2 hf hm
  obtain ⟨i0, hi, hz0, hz1, hz2⟩ := info_parts info_partG
  go_enter Tryz.func11, Tryz.ntmps11
  have HE0 := Lib.hid (Env.start w)
  go_wp2_with fail
  refine (great_any (HV.out.after HE0.out.base (Nat.le_refl _))).mono ?_
  rintro e w1 ⟨r, rfl, hG, hb⟩
  have HE1 := Lib.hid (HE0.out.step hb)
  clear hb HE0
  cases r
  rotate_left
  · clear hG
    skip
    go_wp2_with fail
    skip
    have HEC := HE1
    refine (alive_any _ (HD.out.below HEC.out.base (Nat.le_refl _)) (HT.out.below HEC.out.base (Nat.le_refl _))).mono ?_
    rintro e w2 ⟨rfl, hb⟩
    have HE2 := Lib.hid (HE1.out.step hb)
    clear hb HEC
    go_wp2
    go_ret
    exact ⟨rfl, HE2.out.base⟩
  have HGR := Lib.hid (hG rfl)
  have HLM := Lib.hid (few_lim HGR.out.2)
  clear hG
  by_cases h20 : (20 : Int) < (m : Int) ∧ (m : Int) ≤ 512
  · obtain ⟨g1, g2⟩ := h20
    skip
    go_wp2_with fail
    skip
    have HEC := HE1
    refine (alive_any _ (HD.out.below HEC.out.base (Nat.le_refl _)) (HT.out.below HEC.out.base (Nat.le_refl _))).mono ?_
    rintro e w2 ⟨rfl, hb⟩
    have HE2 := Lib.hid (HE1.out.step hb)
    clear hb HEC
    go_wp2
    go_ret
    exact ⟨rfl, HE2.out.base⟩
  have HLEN : Hid (m ≤ 20 ∨ 512 < m) := by show _ ∨ _; omega
  have hgo : ((20 : Int) < (m : Int) ∧ ¬ (m : Int) ≤ 512) ∨ ¬ (20 : Int) < (m : Int) := by omega
  clear h20
  rcases hgo with ⟨g1, g2⟩ | g1
  · have g2d : decide ((m : Int) ≤ 512) = false := decide_eq_false g2
    skip
    go_wp2_with fail
    refine (long_any (HV2.out.after HE1.out.base (Nat.le_refl _))).mono ?_
    rintro e w2 ⟨r, rfl, hL, hb⟩
    have HE2 := Lib.hid (HE1.out.step hb)
    clear hb HE1
    cases r
    rotate_left
    · clear hL
      skip
      go_wp2_with fail
      skip
      have HEC := HE2
      refine (alive_any _ (HD.out.below HEC.out.base (Nat.le_refl _)) (HT.out.below HEC.out.base (Nat.le_refl _))).mono ?_
      rintro e w3 ⟨rfl, hb⟩
      have HE3 := Lib.hid (HE2.out.step hb)
      clear hb HEC
      go_wp2
      go_ret
      exact ⟨rfl, HE3.out.base⟩
    obtain ⟨hl1, hl2⟩ := hL rfl
    have HZ2 : Hid (LimP ps) := fun p hp => ⟨Nat.le_trans (hl1 p hp).1 (by decide), Nat.le_trans (hl1 p hp).2 (by decide)⟩
    rw [HM.out] at hl2
    have HL2 := Lib.hid hl2
    have hsr : SrcL w2 (.slice p2 m c2) m (pcells ps) := by
      have h := (HV2.out.after HE2.out.base (Nat.le_refl _)).src HFM.out
      rwa [HM.out] at h
    have HSR := Lib.hid hsr
    clear hL hl1 hl2 hsr
    skip
    -- own := append([]T{}, src..): w1 the world, HB: Below w1 from where src is known
    have al := (Below.refl w2.heap.size w2).alloc (Nat.le_refl _) (.cells #[] 46)
    have hown0 : (w2.alloc (.cells #[] 46)).ownsRow w2.heap.size 46 2 (.slice (some ⟨w2.heap.size, 0, none⟩) 0 0) 0 [] := World.ownsRow_lit w2 #[] 0 (Nat.le_refl _) (by simp [maxLen]) rfl
    have hsrc := (HSR.out).after al
    have hz3 : w2.heap.size ≤ (w2.alloc (.cells #[] 46)).heap.size := al.size
    have hm1 : 0 + m ≤ maxLen := by have := HL2.out; unfold maxLen; omega
    have hm2 : (0 + m) * 32 ≤ 140737488355328 := by have := HL2.out; omega
    go_wp2_with (at_builtin; go_loud (refine wpList_append_src rfl _ _ 67 rfl w2.heap.size 46 i0 (.agg #[.string ⟨#[]⟩, .string ⟨#[]⟩]) 2 32 Tryz.underlying67 hi hz0 hz1 hz2 rfl (by decide) _ 0 [] rfl hown0 _ m (pcells ps) rfl hsrc (by rw [pcells_length, HM.out]) (pcells_one ps) hm1 hm2 hz3 ?_); intro vo w3 hOwn hgrow)
    have HBO : Hid (Below w2.heap.size w2 w3) := ((Below.refl w2.heap.size w2).alloc (Nat.le_refl _) (.cells #[] 46)).grown hgrow (by simp) (fun z hz => by have := (World.ownsRow.lt hown0 z hz).1; exact this)
    simp only [Nat.zero_add, List.nil_append] at hOwn
    clear al hown0 hsrc hz3 hm1 hm2 hgrow
    have HOW : Hid (PL w3 vo ps) := by
      have h : Own w3 w2.heap.size vo ps := by unfold Own; rw [HM.out]; exact hOwn
      exact h.pl
    have HE3 := Lib.hid (HE2.out.step HBO.out)
    have HV2w := Lib.hid (HV2.out.after HE3.out.base (Nat.le_refl _))
    clear hOwn HSR HE2 HBO
    obtain ⟨po, co, rfl⟩ : ∃ p c, vo = .slice p m c := by obtain ⟨p, c, h, _⟩ := id HOW.out; exact ⟨_, _, by rw [← HM.out]; exact h⟩
    go_wp2_with fail
    refine (dMiss_any (HV.out.after HE3.out.base (Nat.le_refl _)) HLM.out HOW.out HZ2.out (HD.out.below HE3.out.base (Nat.le_refl _)) (HT.out.below HE3.out.base (Nat.le_refl _))).mono ?_
    rintro e w4 ⟨x1, y1, n1, rfl, hA1, hb⟩
    have HE4 : Hid (Env w.heap.size w [(w4.heap.size, pObj x1 y1)] [] (w4.alloc (pObj x1 y1))) := (HE3.out.step hb).push _ rfl
    have hb4 := hb.alloc hb.size (pObj x1 y1)
    have HX4 := Lib.hid hb4
    have HA1 := Lib.hid hA1
    clear hb hb4 hA1 HE3
    go_wp2_with fail
    refine (rmiss_any (HV.out.after HE4.out.base (Nat.le_refl _)) HLM.out (HV2.out.after HE4.out.base (Nat.le_refl _)) HZ2.out).mono ?_
    rintro e w5 ⟨x2, y2, n2, rfl, hA2, hb⟩
    obtain ⟨rfl, rfl, rfl⟩ := HA1.out.det hA2
    obtain ⟨G1, hG1⟩ : ∃ g, w4.heap.size = g := ⟨_, rfl⟩
    rw [hG1] at HE4
    obtain ⟨G2, hG2⟩ : ∃ g, w5.heap.size = g := ⟨_, rfl⟩
    obtain ⟨w6, hw6⟩ : ∃ z, w5.alloc (pObj x1 y1) = z := ⟨_, rfl⟩
    have HE6 : Hid (Env w.heap.size w [(G2, pObj x1 y1), (G1, pObj x1 y1)] [] w6) := by rw [← hw6]; exact (HE4.out.step hb).push _ hG2.symm
    have HX6 : Hid (Below w3.heap.size w3 w6) := by rw [← hw6]; exact HX4.out.trans ((hb.alloc hb.size (pObj x1 y1)).mono HX4.out.size)
    clear hA2 hb HE4 HA1 HX4
    go_wp2_with fail
    try rw [hG1]
    try rw [hG2]
    try rw [hw6]
    clear hG1 hG2 hw6
    go_loopw [45] (fun i wr => ∃ k : Nat, i = .int .i64 k ∧ k ≤ m ∧ Hid (Env w.heap.size w [(G2, pObj x1 y1), (G1, pObj x1 y1)] [] wr) ∧ Hid (Below w3.heap.size w3 wr)) (fun i _ => m - (intOf i).toNat)
    case atStart => exact ⟨0, rfl, Nat.zero_le _, HE6, HX6⟩
    case round =>
      obtain ⟨k, rfl, hk, HE, HX⟩ := hrel
      clear HE6 HX6
      by_cases hlt : k < m
      · obtain ⟨b1, o1, rfl, hat1⟩ := HOW.out.elem HM.out (by omega)
        obtain ⟨b2, o2, rfl, hat2⟩ := HV2w.out.elem HM.out (by omega)
        have HKP : Hid (k < ps.length) := by show k < ps.length; rw [HM.out]; exact hlt
        have hf1 := fun V hV => hat1 V hV k HKP.out
        have hf2 := fun V hV => hat2 V hV k HKP.out
        obtain ⟨z, hz⟩ : ∃ z, ps[k]'(HKP.out) = z := ⟨_, rfl⟩
        rw [hz] at hf1 hf2
        obtain ⟨s, t⟩ := z
        dsimp only at hf1 hf2
        have HF1 := Lib.hid hf1
        have HF2 := Lib.hid hf2
        have i0' : (0 : Int) ≤ (k : Int) := by omega
        have i1' : (k : Int) < (m : Int) := by omega
        clear hat1 hat2 hf1 hf2 hz
        go_wp2_with fail
        refine tsteps_plain [(true, 0), (true, 1), (true, 2), (true, 3), (true, 4), (true, 5), (true, 6), (true, 7), (true, 8)] (fun V => Env w.heap.size w [(G2, pObj x1 y1), (G1, pObj x1 y1)] [] V ∧ Below w3.heap.size w3 V) (fun _ => false)
          (by kernel_rfl) (by kernel_rfl) (by kernel_rfl) (fun _ _ => rfl) (fun _ _ o _ _ h => by cases o <;> exact h) ⟨HE.out.drew, HX.out.drew⟩ ?_
        have HE7 := Lib.hid HE.out.drew
        have HX7 := Lib.hid HX.out.drew
        skip
        iterate 8
          refine steps_read _ rfl rfl (fun w' hS => by obtain ⟨a0, a1⟩ := HF1.out w' hS.2; obtain ⟨c0, c1⟩ := HF2.out w' hS.2; go_simp; first | rfl | (rw [if_pos (by omega)])) ?_
          simp only [List.getElem_toArray, List.getElem_cons_succ, List.getElem_cons_zero, Act.put, List.setIfInBounds_toArray, List.set_cons_zero, List.set_cons_succ]
        refine steps_read (.bool false) rfl rfl (fun w' hS => by skip; go_simp; first|done|simp) ?_
        simp only [List.getElem_toArray, List.getElem_cons_succ, List.getElem_cons_zero, Act.put, List.setIfInBounds_toArray, List.set_cons_zero, List.set_cons_succ]
        refine steps_end ?_
        go_wp2
        go_roundw
        case rel => exact ⟨k + 1, by go_num, by omega, HE7, HX7⟩
        case measure => simp [intOf]; omega
      · have HE9 := HE
        skip
        have c0 := HE9.out.cell 1 0 (v := .string x1) rfl rfl
        have c1 := HE9.out.cell 1 1 (v := .string y1) rfl rfl
        have d0 := HE9.out.cell 0 0 (v := .string x1) rfl rfl
        have d1 := HE9.out.cell 0 1 (v := .string y1) rfl rfl
        go_wp2_with fail
        refine (same_yes x1 y1 n1 _).mono ?_
        rintro e w10 ⟨rfl, hb⟩
        have HE10 := Lib.hid (HE9.out.step hb)
        clear hb c0 c1 d0 d1
        skip
        go_wp2_with fail
        skip
        have HEC := HE10
        refine (alive_any _ (HD.out.below HEC.out.base (Nat.le_refl _)) (HT.out.below HEC.out.base (Nat.le_refl _))).mono ?_
        rintro e w11 ⟨rfl, hb⟩
        have HE11 := Lib.hid (HE10.out.step hb)
        clear hb HEC
        go_wp2
        go_ret
        exact ⟨rfl, HE11.out.base⟩
  · have g1d : decide ((20 : Int) < (m : Int)) = false := decide_eq_false g1
    skip
    go_wp2_with fail
    refine (long_any (HV2.out.after HE1.out.base (Nat.le_refl _))).mono ?_
    rintro e w2 ⟨r, rfl, hL, hb⟩
    have HE2 := Lib.hid (HE1.out.step hb)
    clear hb HE1
    cases r
    rotate_left
    · clear hL
      skip
      go_wp2_with fail
      skip
      have HEC := HE2
      refine (alive_any _ (HD.out.below HEC.out.base (Nat.le_refl _)) (HT.out.below HEC.out.base (Nat.le_refl _))).mono ?_
      rintro e w3 ⟨rfl, hb⟩
      have HE3 := Lib.hid (HE2.out.step hb)
      clear hb HEC
      go_wp2
      go_ret
      exact ⟨rfl, HE3.out.base⟩
    obtain ⟨hl1, hl2⟩ := hL rfl
    have HZ2 : Hid (LimP ps) := fun p hp => ⟨Nat.le_trans (hl1 p hp).1 (by decide), Nat.le_trans (hl1 p hp).2 (by decide)⟩
    rw [HM.out] at hl2
    have HL2 := Lib.hid hl2
    have hsr : SrcL w2 (.slice p2 m c2) m (pcells ps) := by
      have h := (HV2.out.after HE2.out.base (Nat.le_refl _)).src HFM.out
      rwa [HM.out] at h
    have HSR := Lib.hid hsr
    clear hL hl1 hl2 hsr
    skip
    -- own := append([]T{}, src..): w1 the world, HB: Below w1 from where src is known
    have al := (Below.refl w2.heap.size w2).alloc (Nat.le_refl _) (.cells #[] 46)
    have hown0 : (w2.alloc (.cells #[] 46)).ownsRow w2.heap.size 46 2 (.slice (some ⟨w2.heap.size, 0, none⟩) 0 0) 0 [] := World.ownsRow_lit w2 #[] 0 (Nat.le_refl _) (by simp [maxLen]) rfl
    have hsrc := (HSR.out).after al
    have hz3 : w2.heap.size ≤ (w2.alloc (.cells #[] 46)).heap.size := al.size
    have hm1 : 0 + m ≤ maxLen := by have := HL2.out; unfold maxLen; omega
    have hm2 : (0 + m) * 32 ≤ 140737488355328 := by have := HL2.out; omega
    go_wp2_with (at_builtin; go_loud (refine wpList_append_src rfl _ _ 67 rfl w2.heap.size 46 i0 (.agg #[.string ⟨#[]⟩, .string ⟨#[]⟩]) 2 32 Tryz.underlying67 hi hz0 hz1 hz2 rfl (by decide) _ 0 [] rfl hown0 _ m (pcells ps) rfl hsrc (by rw [pcells_length, HM.out]) (pcells_one ps) hm1 hm2 hz3 ?_); intro vo w3 hOwn hgrow)
    have HBO : Hid (Below w2.heap.size w2 w3) := ((Below.refl w2.heap.size w2).alloc (Nat.le_refl _) (.cells #[] 46)).grown hgrow (by simp) (fun z hz => by have := (World.ownsRow.lt hown0 z hz).1; exact this)
    simp only [Nat.zero_add, List.nil_append] at hOwn
    clear al hown0 hsrc hz3 hm1 hm2 hgrow
    have HOW : Hid (PL w3 vo ps) := by
      have h : Own w3 w2.heap.size vo ps := by unfold Own; rw [HM.out]; exact hOwn
      exact h.pl
    have HE3 := Lib.hid (HE2.out.step HBO.out)
    have HV2w := Lib.hid (HV2.out.after HE3.out.base (Nat.le_refl _))
    clear hOwn HSR HE2 HBO
    obtain ⟨po, co, rfl⟩ : ∃ p c, vo = .slice p m c := by obtain ⟨p, c, h, _⟩ := id HOW.out; exact ⟨_, _, by rw [← HM.out]; exact h⟩
    go_wp2_with fail
    refine (dMiss_any (HV.out.after HE3.out.base (Nat.le_refl _)) HLM.out HOW.out HZ2.out (HD.out.below HE3.out.base (Nat.le_refl _)) (HT.out.below HE3.out.base (Nat.le_refl _))).mono ?_
    rintro e w4 ⟨x1, y1, n1, rfl, hA1, hb⟩
    have HE4 : Hid (Env w.heap.size w [(w4.heap.size, pObj x1 y1)] [] (w4.alloc (pObj x1 y1))) := (HE3.out.step hb).push _ rfl
    have hb4 := hb.alloc hb.size (pObj x1 y1)
    have HX4 := Lib.hid hb4
    have HA1 := Lib.hid hA1
    clear hb hb4 hA1 HE3
    go_wp2_with fail
    refine (rmiss_any (HV.out.after HE4.out.base (Nat.le_refl _)) HLM.out (HV2.out.after HE4.out.base (Nat.le_refl _)) HZ2.out).mono ?_
    rintro e w5 ⟨x2, y2, n2, rfl, hA2, hb⟩
    obtain ⟨rfl, rfl, rfl⟩ := HA1.out.det hA2
    obtain ⟨G1, hG1⟩ : ∃ g, w4.heap.size = g := ⟨_, rfl⟩
    rw [hG1] at HE4
    obtain ⟨G2, hG2⟩ : ∃ g, w5.heap.size = g := ⟨_, rfl⟩
    obtain ⟨w6, hw6⟩ : ∃ z, w5.alloc (pObj x1 y1) = z := ⟨_, rfl⟩
    have HE6 : Hid (Env w.heap.size w [(G2, pObj x1 y1), (G1, pObj x1 y1)] [] w6) := by rw [← hw6]; exact (HE4.out.step hb).push _ hG2.symm
    have HX6 : Hid (Below w3.heap.size w3 w6) := by rw [← hw6]; exact HX4.out.trans ((hb.alloc hb.size (pObj x1 y1)).mono HX4.out.size)
    clear hA2 hb HE4 HA1 HX4
    go_wp2_with fail
    try rw [hG1]
    try rw [hG2]
    try rw [hw6]
    clear hG1 hG2 hw6
    go_loopw [45] (fun i wr => ∃ k : Nat, i = .int .i64 k ∧ k ≤ m ∧ Hid (Env w.heap.size w [(G2, pObj x1 y1), (G1, pObj x1 y1)] [] wr) ∧ Hid (Below w3.heap.size w3 wr)) (fun i _ => m - (intOf i).toNat)
    case atStart => exact ⟨0, rfl, Nat.zero_le _, HE6, HX6⟩
    case round =>
      obtain ⟨k, rfl, hk, HE, HX⟩ := hrel
      clear HE6 HX6
      by_cases hlt : k < m
      · obtain ⟨b1, o1, rfl, hat1⟩ := HOW.out.elem HM.out (by omega)
        obtain ⟨b2, o2, rfl, hat2⟩ := HV2w.out.elem HM.out (by omega)
        have HKP : Hid (k < ps.length) := by show k < ps.length; rw [HM.out]; exact hlt
        have hf1 := fun V hV => hat1 V hV k HKP.out
        have hf2 := fun V hV => hat2 V hV k HKP.out
        obtain ⟨z, hz⟩ : ∃ z, ps[k]'(HKP.out) = z := ⟨_, rfl⟩
        rw [hz] at hf1 hf2
        obtain ⟨s, t⟩ := z
        dsimp only at hf1 hf2
        have HF1 := Lib.hid hf1
        have HF2 := Lib.hid hf2
        have i0' : (0 : Int) ≤ (k : Int) := by omega
        have i1' : (k : Int) < (m : Int) := by omega
        clear hat1 hat2 hf1 hf2 hz
        go_wp2_with fail
        refine tsteps_plain [(true, 0), (true, 1), (true, 2), (true, 3), (true, 4), (true, 5), (true, 6), (true, 7), (true, 8)] (fun V => Env w.heap.size w [(G2, pObj x1 y1), (G1, pObj x1 y1)] [] V ∧ Below w3.heap.size w3 V) (fun _ => false)
          (by kernel_rfl) (by kernel_rfl) (by kernel_rfl) (fun _ _ => rfl) (fun _ _ o _ _ h => by cases o <;> exact h) ⟨HE.out.drew, HX.out.drew⟩ ?_
        have HE7 := Lib.hid HE.out.drew
        have HX7 := Lib.hid HX.out.drew
        skip
        iterate 8
          refine steps_read _ rfl rfl (fun w' hS => by obtain ⟨a0, a1⟩ := HF1.out w' hS.2; obtain ⟨c0, c1⟩ := HF2.out w' hS.2; go_simp; first | rfl | (rw [if_pos (by omega)])) ?_
          simp only [List.getElem_toArray, List.getElem_cons_succ, List.getElem_cons_zero, Act.put, List.setIfInBounds_toArray, List.set_cons_zero, List.set_cons_succ]
        refine steps_read (.bool false) rfl rfl (fun w' hS => by skip; go_simp; first|done|simp) ?_
        simp only [List.getElem_toArray, List.getElem_cons_succ, List.getElem_cons_zero, Act.put, List.setIfInBounds_toArray, List.set_cons_zero, List.set_cons_succ]
        refine steps_end ?_
        go_wp2
        go_roundw
        case rel => exact ⟨k + 1, by go_num, by omega, HE7, HX7⟩
        case measure => simp [intOf]; omega
      · have HE9 := HE
        skip
        have c0 := HE9.out.cell 1 0 (v := .string x1) rfl rfl
        have c1 := HE9.out.cell 1 1 (v := .string y1) rfl rfl
        have d0 := HE9.out.cell 0 0 (v := .string x1) rfl rfl
        have d1 := HE9.out.cell 0 1 (v := .string y1) rfl rfl
        go_wp2_with fail
        refine (same_yes x1 y1 n1 _).mono ?_
        rintro e w10 ⟨rfl, hb⟩
        have HE10 := Lib.hid (HE9.out.step hb)
        clear hb c0 c1 d0 d1
        skip
        go_wp2_with fail
        skip
        have HEC := HE10
        refine (alive_any _ (HD.out.below HEC.out.base (Nat.le_refl _)) (HT.out.below HEC.out.base (Nat.le_refl _))).mono ?_
        rintro e w11 ⟨rfl, hb⟩
        have HE11 := Lib.hid (HE10.out.step hb)
        clear hb HEC
        go_wp2
        go_ret
        exact ⟨rfl, HE11.out.base⟩
end Go.Proofs.YtcncdepjbhnknaaGreatDoor
namespace Go.Proofs.YtcncdepjbhnknaaGreatDoor
open Go.ChangeShapes Go.WideShapes Go.ChangeAt Go.RowKit

set_option maxRecDepth 100000 in
theorem open_parts_form {H : Type} {enc : TypeId × Value → H} {W : World} {base b0 : Nat} {sp : Nat → Bool} {held : Bool} {v : Value} {d : DataW H} {p : List MemPlace} (hv : Value.okWide Tryz.prog W .any b0 67 v)
    (h : DataW.Trod enc Tryz.prog W base sp held 67 v d p) : ∃ ps : List PP, PL W v ps ∧ (v = .slice none 0 0 ∨ ∃ ad m c, v = .slice (some ad) m c) := by
  obtain ⟨a0, len, cap, rfl⟩ := okWide_slice Tryz.underlying67 hv
  obtain ⟨fuel, hf⟩ := h
  rcases Deep.open_slice_pairs Tryz.underlying67 Tryz.underlying46 (by kernel_rfl) rfl rfl (by kernel_rfl) (by kernel_rfl) hf with ⟨hcs, _⟩ | ⟨a, len', cap', m, n, V0, V1, D0, D1, P0, P1, hcs, _, hl, hm, hmm, _, hx⟩
  · simp only [Value.cells, List.cons.injEq, Value.slice.injEq, and_true] at hcs
    obtain ⟨rfl, rfl, rfl⟩ := hcs
    exact ⟨[], PL.nil W, .inl rfl⟩
  · simp only [Value.cells, List.cons.injEq, Value.slice.injEq, and_true] at hcs
    obtain ⟨rfl, rfl, rfl⟩ := hcs
    have hlm : len ≤ m := by rw [hmm]; split <;> omega
    have each : ∀ i, i < len → ∃ q : PP, W.cell? (a.add (i * 2)) = some (.string q.1) ∧ W.cell? (a.add (i * 2 + 1)) = some (.string q.2) := by
      intro i hi
      obtain ⟨k0, k1, k2, k3⟩ := hx i (by omega)
      obtain ⟨s, e0, _, _⟩ := DataW.trod_string Tryz.underlying44 k2
      obtain ⟨t, e1, _, _⟩ := DataW.trod_string Tryz.underlying44 k3
      simp only [List.cons.injEq, and_true] at e0 e1
      rw [e0] at k0
      rw [e1] at k1
      exact ⟨(s, t), k0, k1⟩
    obtain ⟨q, hq⟩ := Deep.choose_lt each
    obtain ⟨b, off, spot⟩ := a
    refine ⟨(List.range len).map q, ⟨some ⟨b, off, spot⟩, cap, by simp, by simpa using hl, hm, fun hne => ?_⟩, .inr ⟨_, _, _, rfl⟩⟩
    have h0 : 0 < len := by
      rcases Nat.eq_zero_or_pos len with h | h
      · subst h; exact absurd rfl hne
      · exact h
    have hspot : spot = none := by simpa [Addr.add] using World.cell?_spot (hq 0 h0).1
    subst hspot
    refine ⟨b, off, rfl, World.block_lt_of_cell? _ _ (hq 0 h0).1, fun j hj => ?_⟩
    have hj' : j < len := by simpa using hj
    obtain ⟨c0, c1⟩ := hq j hj'
    have e : ((List.range len).map q)[j] = q j := by simp
    rw [e]
    rw [add_plain] at c0 c1
    exact ⟨c0, c1⟩
set_option maxRecDepth 100000 in
theorem open_parts {H : Type} {enc : TypeId × Value → H} {W : World} {base b0 : Nat} {sp : Nat → Bool} {held : Bool} {v : Value} {d : DataW H} {p : List MemPlace} (hv : Value.okWide Tryz.prog W .any b0 67 v)
    (h : DataW.Trod enc Tryz.prog W base sp held 67 v d p) : ∃ ps : List PP, PL W v ps := by
  obtain ⟨ps, h, _⟩ := open_parts_form hv h
  exact ⟨ps, h⟩
end Go.Proofs.YtcncdepjbhnknaaGreatDoor
namespace Go.Proofs.YtcncdepjbhnknaaGreatDoor
open Go.ChangeShapes Go.WideShapes Go.ChangeAt Go.RowKit

set_option maxRecDepth 100000 in
theorem parts_form {H : Type} {enc : TypeId × Value → H} {W : World} {base b0 : Nat} {sp : Nat → Bool} {held : Bool} {v : Value} {d : DataW H} {p : List MemPlace} (hv : Value.okWide Tryz.prog W .any b0 67 v)
    (h : DataW.Trod enc Tryz.prog W base sp held 67 v d p) : PForm v := by
  obtain ⟨a0, len, cap, rfl⟩ := okWide_slice Tryz.underlying67 hv
  obtain ⟨fuel, hf⟩ := h
  rcases Deep.open_slice Tryz.underlying67 hf with ⟨hcs, _⟩ | ⟨a, len', cap', m, n, D, Pl, hcs, _⟩
  · simp only [Value.cells, List.cons.injEq, Value.slice.injEq, and_true] at hcs
    obtain ⟨rfl, rfl, rfl⟩ := hcs
    exact .inl rfl
  · simp only [Value.cells, List.cons.injEq, Value.slice.injEq, and_true] at hcs
    obtain ⟨rfl, rfl, rfl⟩ := hcs
    exact .inr ⟨_, _, _, rfl⟩
end Go.Proofs.YtcncdepjbhnknaaGreatDoor
namespace Go.Proofs.YtcncdepjbhnknaaGreatDoor
open Go.ChangeShapes Go.WideShapes Go.ChangeAt Go.RowKit

set_option maxRecDepth 100000 in
theorem misses_lifted (os : Os) (started : os.Started) (H : Type) (enc : TypeId × Value → H) :
    ReturnsInHanded {} Tryz.checked os 11 .any (fun w args => (Rows.detectMissesSpec.pre enc Tryz.prog Tryz.f11 Rows.detectMissesRow.domain false w args ∧ laidMetH Tryz.prog laid9 w) ∧ sizedMet enc Tryz.prog Tryz.f11 (OpenSpec.ofChange Rows.detectMissesSpec) false w args)
      (Rows.detectMissesSpec.post enc Tryz.prog Tryz.f11 false true false false) := by
  refine returnsInHanded_of_change_and (C := Tryz.checked) (X := fun w _ => laidMetH Tryz.prog laid9 w) (fun _ _ _ hh h => h.of_heap hh) own_seat started (by kernel_rfl) Tryz.func11
    (ChangeSpec.witness_shaped (enc := enc) (C := Tryz.checked) (os := os) (X := fun w _ => laidMetH Tryz.prog laid9 w) false (World.laidAll Tryz.prog os laid9) #[.slice none 0 0, .slice none 0 0] 8 (World.laidAll_os _ _ _)
      (World.shaped_of_ZipB (by kernel_rfl) (by kernel_rfl)) (by kernel_rfl) (by kernel_rfl) (by kernel_rfl) (met9 os _)) ?_
  intro W base args ds gs before hval0 hW hc _ hL _
  have hval : ∀ (j : Nat) t v, Tryz.f11.params[j]? = some t → args[j]? = some v → Value.okWide Tryz.prog W .any base t v := hval0
  have hW' := hW
  obtain ⟨p, q, hA0, hV, rfl, _, _⟩ := hW
  have hA : DataW.TrodAll enc Tryz.prog W 0 (fun _ => true) true Tryz.f11.params.toList args.toList ds p := hA0
  rw [Tryz.params11] at hA hval
  obtain ⟨v0, v1, d0, d1, p0, p1, rfl, rfl, rfl, h0, h1⟩ := trodAll_two hA
  obtain ⟨rfl, rfl⟩ := trodVars_none hV
  obtain ⟨bs0, hb0⟩ := open_bends (hval 0 _ v0 rfl rfl) h0
  obtain ⟨ps1, hps1⟩ := open_parts (hval 1 _ v1 rfl rfl) h1
  have hf1 := parts_form (hval 1 _ v1 rfl rfl) h1
  clear hA0 hval0
  simp only [List.append_nil] at hW'
  refine (misses_law hb0 hps1 hf1 (detV_of_laid9 hL) (tabs_of_laid9 hL)).mono fun e W' ⟨he, bel⟩ => ?_
  subst he
  have nx : ∀ x ∈ ([] : List MemPlace), x.block < W.heap.size := fun _ h => by cases h
  have hlt0 : ∀ x ∈ p0, x.block < W.heap.size := fun x hx => by first | (have := hW'.lt x hx; simpa using this) | (have := hW'.lt x (by simp [hx]); simpa using this)
  have hlt1 : ∀ x ∈ p1, x.block < W.heap.size := fun x hx => by first | (have := hW'.lt x hx; simpa using this) | (have := hW'.lt x (by simp [hx]); simpa using this)
  refine ⟨_, rfl, _, _, _, [], p0 ++ p1, [], hW', ?_, ?_, ?_, bel.frame _, fun h => by cases h⟩
  · exact trodAll_mk1 (shut_bool Tryz.underlying4 _)
  · have h9 := trodAll_mk2 (Below.trod out_seat (by kernel_rfl) (of_decide_eq_true (by kernel_rfl)) h0 bel hlt0) (Below.trod out_seat (by kernel_rfl) (of_decide_eq_true (by kernel_rfl)) h1 bel hlt1)
    first | exact h9 | (simp only [List.append_nil, List.nil_append] at h9; exact h9) | (simpa using h9)
  · rfl
end Go.Proofs.YtcncdepjbhnknaaGreatDoor
