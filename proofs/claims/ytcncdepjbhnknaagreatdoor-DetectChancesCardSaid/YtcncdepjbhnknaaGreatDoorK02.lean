/- The parts RNeed, LawChances, LawChancesLift of a proof, put together by program (merge6.py). -/
import Derived.Test.YtcncdepjbhnknaaGreatDoorR06
import Derived.Test.YtcncdepjbhnknaaGreatDoorR07
import Derived.Test.YtcncdepjbhnknaaGreatDoorH21
import Derived.Test.YtcncdepjbhnknaaGreatDoorK01
import Derived.Test.YtcncdepjbhnknaaGreatDoorH22
set_option linter.unusedVariables false
set_option linter.unusedSimpArgs false
namespace Go.Proofs.YtcncdepjbhnknaaGreatDoor
open Go.RowKit Go.Shelf
attribute [local go_sem ↓] Go.wp_at_zero Go.wp_at_succ

set_option maxRecDepth 100000 in
set_option maxHeartbeats 8000000 in
theorem rneed_any {v : Value} {bs : List BB} {w : World} {s t : ByteArray} (hv : BL w v bs) (hz : LimB bs) (hs : s.size ≤ 1000000) (ht : t.size ≤ 1000000) :
    Calls Tryz.prog 40 #[v, pV s t] w (PartPost (NeedA bs s t) w) := by
  obtain ⟨n, hn⟩ : ∃ n, bs.length = n := ⟨_, rfl⟩
  obtain ⟨p, c, rfl⟩ : ∃ p c, v = .slice p n c := by obtain ⟨p, c, h, _⟩ := id hv; exact ⟨_, _, by rw [← hn]; exact h⟩
  obtain ⟨_, hcc, hnc⟩ := hv.len
  have HL := Lib.hid hn
  have HV := Lib.hid hv
  have HZ := Lib.hid hz
  have HSZ : Hid (s.size ≤ 1000000 ∧ t.size ≤ 1000000) := ⟨hs, ht⟩
  clear hv hn hz hs ht
  go_enter Tryz.func40, Tryz.ntmps40
  have HE0 : Hid (Env w.heap.size w [(w.heap.size + 1, pObj ⟨#[]⟩ ⟨#[]⟩), (w.heap.size, pObj s t)] [] ((w.alloc (pObj s t)).alloc (pObj ⟨#[]⟩ ⟨#[]⟩))) := ((Env.start w).push (pObj s t) rfl).push _ (by simp)
  go_wp2_with fail
  refine (rcurve_any (HV.out.after HE0.out.base (Nat.le_refl _)) HZ.out).mono ?_
  rintro e w1 ⟨r, rfl, hr, hb⟩
  have HE1 := Lib.hid (HE0.out.step hb)
  have HR := Lib.hid hr
  clear hb hr HE0
  cases r
  · have HNO : Hid (¬ (CurveP bs ∧ smallP 300 (s, t) = true)) := fun h => by have := HR.out.2 h.1; cases this
    skip
    have HA : Hid (NeedA bs s t ⟨#[]⟩ ⟨#[]⟩ 2) := .inl ⟨HNO.out, rfl, rfl, rfl⟩
    skip
    -- ahead of a walk: what the first block holds
    have r0 := HE1.out.cell 0 0 rfl rfl
    have r1 := HE1.out.cell 0 1 rfl rfl
    have f0 := HE1.out.free 0 0 rfl
    have f1 := HE1.out.free 0 1 rfl
    go_wp2
    have HE9 := Lib.hid (HE1.out.fill (.string ⟨#[]⟩) (.string ⟨#[]⟩))
    skip
    have q0 := HE9.out.cell 0 0 (v := .string ⟨#[]⟩) rfl rfl
    have q1 := HE9.out.cell 0 1 (v := .string ⟨#[]⟩) rfl rfl
    exact bodyPost_ret (v := .tuple #[.agg #[.string ⟨#[]⟩, .string ⟨#[]⟩], .int .i64 2]) (by simp [results, Tryz.f40, go_sem, q0, q1]) rfl ⟨⟨#[]⟩, ⟨#[]⟩, 2, rfl, HA.out, HE9.out.base⟩
  · have HC := Lib.hid (HR.out.1 rfl)
    clear HR
    have c0 := HE1.out.cell 1 0 (v := .string s) rfl rfl
    have c1 := HE1.out.cell 1 1 (v := .string t) rfl rfl
    go_wp2_with fail
    refine (rdeep_any s t HSZ.out.1 HSZ.out.2 _).mono ?_
    rintro e w2 ⟨rfl, hb⟩
    have HE2 := Lib.hid (HE1.out.step hb)
    clear hb c0 c1 HE1
    cases hsm : smallP 300 (s, t)
    · have HNO : Hid (¬ (CurveP bs ∧ smallP 300 (s, t) = true)) := fun h => by rw [hsm] at h; cases h.2
      clear hsm
      skip
      have HA : Hid (NeedA bs s t ⟨#[]⟩ ⟨#[]⟩ 2) := .inl ⟨HNO.out, rfl, rfl, rfl⟩
      skip
      -- ahead of a walk: what the first block holds
      have r0 := HE2.out.cell 0 0 rfl rfl
      have r1 := HE2.out.cell 0 1 rfl rfl
      have f0 := HE2.out.free 0 0 rfl
      have f1 := HE2.out.free 0 1 rfl
      go_wp2
      have HE9 := Lib.hid (HE2.out.fill (.string ⟨#[]⟩) (.string ⟨#[]⟩))
      skip
      have q0 := HE9.out.cell 0 0 (v := .string ⟨#[]⟩) rfl rfl
      have q1 := HE9.out.cell 0 1 (v := .string ⟨#[]⟩) rfl rfl
      exact bodyPost_ret (v := .tuple #[.agg #[.string ⟨#[]⟩, .string ⟨#[]⟩], .int .i64 2]) (by simp [results, Tryz.f40, go_sem, q0, q1]) rfl ⟨⟨#[]⟩, ⟨#[]⟩, 2, rfl, HA.out, HE9.out.base⟩
    · obtain ⟨isq, hz300⟩ := isP_small hsm
      have HSM := Lib.hid hsm
      obtain ⟨q, hq⟩ : ∃ q, ratP s t = q := ⟨_, rfl⟩
      dsimp only at isq hz300
      rw [hq] at isq hz300
      have HRQ := Lib.hid hq
      have IQ := Lib.hid isq
      have ZQ := Lib.hid hz300
      have hln := HC.out.len
      rw [HL.out] at hln
      obtain ⟨r, hr⟩ : ∃ r, n = r + 1 := ⟨n - 1, by omega⟩
      have e1 : IntKind.i64.wrap ((n : Int) - 1) = (r : Int) := by rw [IntWalk.i64_in _ (by omega)]; omega
      obtain ⟨b, off, rfl, hbl, hat⟩ := HV.out.at HL.out (by omega)
      have HAT := Lib.hid hat
      have r0' : (0 : Int) ≤ (r : Int) := by omega
      have r1' : (r : Int) < (n : Int) := by omega
      obtain ⟨ih, _⟩ := HC.out.isH (i := r) (by rw [HL.out]; omega)
      obtain ⟨z, hz⟩ : ∃ z, bAt bs r = z := ⟨_, rfl⟩
      rw [hz] at ih
      have HFR : Hid (∀ V, Below w.heap.size w V → V.cell? ⟨b, off + r * 4, none⟩ = some (.string z.1.1) ∧ V.cell? ⟨b, off + r * 4 + 1, none⟩ = some (.string z.1.2) ∧ V.cell? ⟨b, off + r * 4 + 2, none⟩ = some (.string z.2.1) ∧ V.cell? ⟨b, off + r * 4 + 3, none⟩ = some (.string z.2.2)) := fun V hV => by rw [← hz]; exact hat V hV r (by omega)
      obtain ⟨⟨s9, t9⟩, u9, v9⟩ := z
      dsimp only at HFR ih
      have HRN := Lib.hid hr
      obtain ⟨g1, hg1⟩ : ∃ z, sgnR q (hR bs r) = z := ⟨_, rfl⟩
      have HG1 := Lib.hid hg1
      have CT0 := Lib.hid (fun W => rcmp_to IQ.out ih hg1 W)
      clear hsm isq hz300 hq hat hz ih hr hg1
      go_wp2_with fail
      refine tsteps_plain [(true, 0), (true, 1), (true, 2), (true, 3), (true, 4), (true, 5), (true, 6), (true, 7), (false, 8), (true, 9)] (Env w.heap.size w [(w.heap.size + 1, pObj ⟨#[]⟩ ⟨#[]⟩), (w.heap.size, pObj s t)] []) (fun _ => false)
        (by kernel_rfl) (by kernel_rfl) (by kernel_rfl) (fun _ _ => rfl) (fun _ _ o _ _ h => by cases o <;> exact h) HE2.out.drew ?_
      have HE2' := Lib.hid HE2.out.drew
      skip
      iterate 8
        refine steps_read _ rfl rfl (fun w' hS => by have c0 := hS.cell 1 0 (v := .string s) rfl rfl; have c1 := hS.cell 1 1 (v := .string t) rfl rfl; obtain ⟨a0, a1, a2, a3⟩ := HFR.out w' hS.base; go_simp; first | rfl | (rw [if_pos (by omega)])) ?_
        simp only [List.getElem_toArray, List.getElem_cons_succ, List.getElem_cons_zero, Act.put, List.setIfInBounds_toArray, List.set_cons_zero, List.set_cons_succ]
      refine steps_write rfl rfl fun K hK => ?_
      go_simp
      go_at_call 88
      have HEC := HE2'
      refine (CT0.out _).mono ?_
      rintro e w3 ⟨rfl, hb⟩
      have HE3 := Lib.hid (HE2'.out.step hb)
      refine hK _ _ (.inr HE3.out) ?_
      clear hK K hb HEC
      iterate 1
        refine steps_read _ rfl rfl (fun w' hS => by skip; go_simp; first | rfl | (rw [if_pos (by omega)])) ?_
        simp only [List.getElem_toArray, List.getElem_cons_succ, List.getElem_cons_zero, Act.put, List.setIfInBounds_toArray, List.set_cons_zero, List.set_cons_succ]
      refine steps_end ?_
      clear HE2 HE2' CT0
      have elast : bs.length - 1 = r := by have := HL.out; have := HRN.out; omega
      by_cases hgt : (0 : Int) < g1
      · have HA : Hid (NeedA bs s t ⟨#[]⟩ ⟨#[]⟩ 7) := .inr (.inl ⟨⟨HC.out, HSM.out⟩, by
          rw [elast, HRQ.out]
          exact Rat.not_le.1 fun h => by have := sgnR_le h; rw [HG1.out] at this; exact this hgt, rfl, rfl, rfl⟩)
        clear elast
        skip
        -- ahead of a walk: what the first block holds
        have r0 := HE3.out.cell 0 0 rfl rfl
        have r1 := HE3.out.cell 0 1 rfl rfl
        have f0 := HE3.out.free 0 0 rfl
        have f1 := HE3.out.free 0 1 rfl
        go_wp2
        have HE9 := Lib.hid (HE3.out.fill (.string ⟨#[]⟩) (.string ⟨#[]⟩))
        skip
        have q0 := HE9.out.cell 0 0 (v := .string ⟨#[]⟩) rfl rfl
        have q1 := HE9.out.cell 0 1 (v := .string ⟨#[]⟩) rfl rfl
        exact bodyPost_ret (v := .tuple #[.agg #[.string ⟨#[]⟩, .string ⟨#[]⟩], .int .i64 7]) (by simp [results, Tryz.f40, go_sem, q0, q1]) rfl ⟨⟨#[]⟩, ⟨#[]⟩, 7, rfl, HA.out, HE9.out.base⟩
      have HTOP : Hid (q ≤ hR bs r) := Rat.not_lt.1 fun h => hgt (by rw [← HG1.out]; exact sgnR_gt (Rat.not_le.2 h))
      have HEL := Lib.hid elast
      clear elast HG1
      go_wp2_with fail
      go_loopw [7] (fun i wr => ∃ k : Nat, i = .int .i64 k ∧ k < n ∧ Hid (∀ j, j < k → hR bs j < q) ∧ Hid (Env w.heap.size w [(w.heap.size + 1, pObj ⟨#[]⟩ ⟨#[]⟩), (w.heap.size, pObj s t)] [] wr)) (fun i _ => n - (intOf i).toNat)
      case atStart => exact ⟨0, rfl, by omega, fun j hj => by omega, HE3⟩
      case round =>
        obtain ⟨k, rfl, hk, HK, HE⟩ := hrel
        clear HE3 hgt
        have k0' : (0 : Int) ≤ (k : Int) := by omega
        have k1' : (k : Int) < (n : Int) := by omega
        obtain ⟨ih, _⟩ := HC.out.isH (i := k) (by rw [HL.out]; exact hk)
        obtain ⟨ic, _⟩ := HC.out.isC (i := k) (by rw [HL.out]; exact hk)
        obtain ⟨z, hz⟩ : ∃ z, bAt bs k = z := ⟨_, rfl⟩
        rw [hz] at ih ic
        have HFK : Hid (∀ V, Below w.heap.size w V → V.cell? ⟨b, off + k * 4, none⟩ = some (.string z.1.1) ∧ V.cell? ⟨b, off + k * 4 + 1, none⟩ = some (.string z.1.2) ∧ V.cell? ⟨b, off + k * 4 + 2, none⟩ = some (.string z.2.1) ∧ V.cell? ⟨b, off + k * 4 + 3, none⟩ = some (.string z.2.2)) := fun V hV => by rw [← hz]; exact HAT.out V hV k hk
        have HZK := Lib.hid hz
        obtain ⟨⟨s1, t1⟩, u1, v1⟩ := z
        dsimp only at HFK ih ic
        obtain ⟨g, hg⟩ : ∃ z, sgnR (hR bs k) q = z := ⟨_, rfl⟩
        have CT1 := Lib.hid (fun W => rcmp_to ih IQ.out hg W)
        have HG := Lib.hid hg
        have IH := Lib.hid ih
        have IC := Lib.hid ic
        clear hz ih ic hg
        go_wp2_with fail
        refine tsteps_plain [(true, 0), (true, 1), (true, 2), (true, 3), (true, 4), (true, 5), (false, 6), (true, 7)] (Env w.heap.size w [(w.heap.size + 1, pObj ⟨#[]⟩ ⟨#[]⟩), (w.heap.size, pObj s t)] []) (fun _ => false)
          (by kernel_rfl) (by kernel_rfl) (by kernel_rfl) (fun _ _ => rfl) (fun _ _ o _ _ h => by cases o <;> exact h) HE.out.drew ?_
        have HE1 := Lib.hid HE.out.drew
        skip
        iterate 6
          refine steps_read _ rfl rfl (fun w' hS => by have c0 := hS.cell 1 0 (v := .string s) rfl rfl; have c1 := hS.cell 1 1 (v := .string t) rfl rfl; obtain ⟨a0, a1, a2, a3⟩ := HFK.out w' hS.base; go_simp; first | rfl | (rw [if_pos (by omega)])) ?_
          simp only [List.getElem_toArray, List.getElem_cons_succ, List.getElem_cons_zero, Act.put, List.setIfInBounds_toArray, List.set_cons_zero, List.set_cons_succ]
        refine steps_write rfl rfl fun K hK => ?_
        go_simp
        go_at_call 88
        have HEC := HE1
        refine (CT1.out _).mono ?_
        rintro e w2 ⟨rfl, hb⟩
        have HE2 := Lib.hid (HE1.out.step hb)
        refine hK _ _ (.inr HE2.out) ?_
        clear hK K hb HEC
        iterate 1
          refine steps_read _ rfl rfl (fun w' hS => by skip; go_simp; first | rfl | (rw [if_pos (by omega)])) ?_
          simp only [List.getElem_toArray, List.getElem_cons_succ, List.getElem_cons_zero, Act.put, List.setIfInBounds_toArray, List.set_cons_zero, List.set_cons_succ]
        refine steps_end ?_
        clear HE HE1 CT1
        by_cases hlt : g < 0
        · have hkq : hR bs k < q := Rat.not_le.1 fun h => by
            have := sgnR_ge (Rat.not_lt.2 h)
            rw [HG.out] at this
            omega
          have hkr : k + 1 < n := by
            rcases Nat.lt_or_ge (k + 1) n with h | h
            · exact h
            · obtain rfl : k = r := by have := HRN.out; omega
              exact absurd HTOP.out (Rat.not_le.2 hkq)
          have HK2 : Hid (∀ j, j < k + 1 → hR bs j < q) := fun j hj => by
            rcases Nat.lt_or_ge j k with h | h
            · exact HK.out j h
            · obtain rfl : j = k := by omega
              exact hkq
          clear hkq
          go_wp2
          go_roundw
          case rel => exact ⟨k + 1, by go_num, hkr, HK2, HE2⟩
          case measure => simp [intOf]; omega
        have HUP : Hid (q ≤ hR bs k) := Rat.not_lt.1 fun h => hlt (by rw [← HG.out]; exact Int.not_le.1 (sgnR_lt h))
        clear HG
        rcases Nat.eq_zero_or_pos k with hk0 | hk0
        · have bk : ((k : Int) == 0) = true := by rw [beq_iff_eq]; omega
          have HA : Hid (NeedA bs s t s1 t1 0) := .inr (.inr ⟨⟨HC.out, HSM.out⟩, by rw [HEL.out, HRQ.out]; exact HTOP.out, rfl, 0, .inl ⟨by
            rw [HRQ.out]
            have h1 := HUP.out
            rw [hk0, HC.out.conc'.h0] at h1
            have h2 := IQ.out.nn
            grind, rfl⟩, by
            have h1 := IC.out
            rw [hk0, HC.out.conc'.c0] at h1
            exact h1⟩)
          clear hk0
          go_wp2_with fail
          refine tsteps_plain [(true, 0), (true, 1), (true, 2), (true, 3), (true, 4), (true, 5), (true, 6), (true, 7), (true, 8), (true, 9), (true, 10)] (Env w.heap.size w [(w.heap.size + 1, pObj ⟨#[]⟩ ⟨#[]⟩), (w.heap.size, pObj s t)] []) (fun _ => false)
            (by kernel_rfl) (by kernel_rfl) (by kernel_rfl) (fun _ _ => rfl) (fun _ _ o _ _ h => by cases o <;> exact h) HE2.out.drew ?_
          obtain ⟨w3, hw3⟩ : ∃ z, w2.drew = z := ⟨_, rfl⟩
          have HE3 : Hid (Env w.heap.size w [(w.heap.size + 1, pObj ⟨#[]⟩ ⟨#[]⟩), (w.heap.size, pObj s t)] [] w3) := by rw [← hw3]; exact HE2.out.drew
          rw [hw3]
          clear hw3
          skip
          iterate 3
            refine steps_read _ rfl rfl (fun w' hS => by skip; go_simp; first | rfl | (rw [if_pos (by omega)])) ?_
            simp only [List.getElem_toArray, List.getElem_cons_succ, List.getElem_cons_zero, Act.put, List.setIfInBounds_toArray, List.set_cons_zero, List.set_cons_succ]
          iterate 7
            refine steps_skip rfl rfl ?_
            simp only [List.getElem_toArray, List.getElem_cons_succ, List.getElem_cons_zero, Act.put, List.setIfInBounds_toArray, List.set_cons_zero, List.set_cons_succ]
          iterate 1
            refine steps_read _ rfl rfl (fun w' hS => by skip; go_simp; first | rfl | (rw [if_pos (by omega)])) ?_
            simp only [List.getElem_toArray, List.getElem_cons_succ, List.getElem_cons_zero, Act.put, List.setIfInBounds_toArray, List.set_cons_zero, List.set_cons_succ]
          refine steps_end ?_
          obtain ⟨a0, a1, a2, a3⟩ := HFK.out _ HE3.out.base
          skip
          -- ahead of a walk: what the first block holds
          have r0 := HE3.out.cell 0 0 rfl rfl
          have r1 := HE3.out.cell 0 1 rfl rfl
          have f0 := HE3.out.free 0 0 rfl
          have f1 := HE3.out.free 0 1 rfl
          go_wp2
          have HE9 := Lib.hid (HE3.out.fill (.string s1) (.string t1))
          skip
          have q0 := HE9.out.cell 0 0 (v := .string s1) rfl rfl
          have q1 := HE9.out.cell 0 1 (v := .string t1) rfl rfl
          exact bodyPost_ret (v := .tuple #[.agg #[.string s1, .string t1], .int .i64 0]) (by simp [results, Tryz.f40, go_sem, q0, q1]) rfl ⟨s1, t1, 0, rfl, HA.out, HE9.out.base⟩
        have bk : ((k : Int) == 0) = false := by rw [beq_eq_false_iff_ne]; omega
        obtain ⟨m, hm⟩ : ∃ m, k = m + 1 := ⟨k - 1, by omega⟩
        have e2 : IntKind.i64.wrap ((k : Int) - 1) = (m : Int) := by rw [IntWalk.i64_in _ (by omega)]; omega
        have hmn : m + 1 < bs.length := by have := HL.out; omega
        have m0' : (0 : Int) ≤ (m : Int) := by omega
        have m1' : (m : Int) < (n : Int) := by omega
        have hlow := HK.out m (by omega)
        have hup := HUP.out
        have ih := IH.out
        have ic := IC.out
        rw [hm] at hup ih ic
        obtain ⟨⟨x1, y1, f1⟩, ⟨x2, y2, f2⟩, ⟨x3, y3, f3⟩, ⟨x4, y4, f4⟩, ⟨x5, y5, f5⟩, ⟨x6, y6, f6⟩, f7, ⟨x8, y8, f8⟩, f9, f10⟩ := need_parts HC.out IQ.out.nn ZQ.out hmn hlow hup
        have HNR : Hid (NeedR bs.length (cR bs) (hR bs) (ratP s t) (cR bs m + (cR bs (m + 1) - cR bs m) / (hR bs (m + 1) - hR bs m) * (q - hR bs m))) := by rw [HRQ.out]; exact .inr ⟨m, hmn, hlow, hup, rfl⟩
        by_cases heq : u1 = s ∧ v1 = t
        · have HEV : Hid (u1 = s ∧ v1 = t) := heq
          have hqq : hR bs (m + 1) = q := by
            obtain ⟨rfl, rfl⟩ := heq
            have h1 := ih.rat
            have h2 := IQ.out.rat
            rw [← h1, h2]
          have HA : Hid (NeedA bs s t s1 t1 0) := .inr (.inr ⟨⟨HC.out, HSM.out⟩, by rw [HEL.out, HRQ.out]; exact HTOP.out, rfl, _, HNR.out, by
            have e9 : cR bs m + (cR bs (m + 1) - cR bs m) / (hR bs (m + 1) - hR bs m) * (q - hR bs m) = cR bs (m + 1) := by
              rw [← hqq]
              have h3 : hR bs (m + 1) - hR bs m ≠ 0 := by grind
              grind
            rw [e9]
            exact ic⟩)
          obtain ⟨rfl, rfl⟩ := heq
          clear f1 f2 f3 f4 f5 f6 f7 f8 f9 f10 hqq hm hmn hlow hup ih ic hk0
          go_wp2_with fail
          refine tsteps_plain [(true, 0), (true, 1), (true, 2), (true, 3), (true, 4), (true, 5), (true, 6), (true, 7), (true, 8), (true, 9), (true, 10)] (Env w.heap.size w [(w.heap.size + 1, pObj ⟨#[]⟩ ⟨#[]⟩), (w.heap.size, pObj u1 v1)] []) (fun _ => false)
            (by kernel_rfl) (by kernel_rfl) (by kernel_rfl) (fun _ _ => rfl) (fun _ _ o _ _ h => by cases o <;> exact h) HE2.out.drew ?_
          obtain ⟨w3, hw3⟩ : ∃ z, w2.drew = z := ⟨_, rfl⟩
          have HE3 : Hid (Env w.heap.size w [(w.heap.size + 1, pObj ⟨#[]⟩ ⟨#[]⟩), (w.heap.size, pObj u1 v1)] [] w3) := by rw [← hw3]; exact HE2.out.drew
          rw [hw3]
          clear hw3
          skip
          iterate 11
            refine steps_read _ rfl rfl (fun w' hS => by have c0 := hS.cell 1 0 (v := .string u1) rfl rfl; have c1 := hS.cell 1 1 (v := .string v1) rfl rfl; obtain ⟨a0, a1, a2, a3⟩ := HFK.out w' hS.base; go_simp; first | rfl | (rw [if_pos (by omega)])) ?_
            simp only [List.getElem_toArray, List.getElem_cons_succ, List.getElem_cons_zero, Act.put, List.setIfInBounds_toArray, List.set_cons_zero, List.set_cons_succ]
          refine steps_end ?_
          obtain ⟨a0, a1, a2, a3⟩ := HFK.out _ HE3.out.base
          skip
          -- ahead of a walk: what the first block holds
          have r0 := HE3.out.cell 0 0 rfl rfl
          have r1 := HE3.out.cell 0 1 rfl rfl
          have f0 := HE3.out.free 0 0 rfl
          have f1 := HE3.out.free 0 1 rfl
          go_wp2
          have HE9 := Lib.hid (HE3.out.fill (.string s1) (.string t1))
          skip
          have q0 := HE9.out.cell 0 0 (v := .string s1) rfl rfl
          have q1 := HE9.out.cell 0 1 (v := .string t1) rfl rfl
          exact bodyPost_ret (v := .tuple #[.agg #[.string s1, .string t1], .int .i64 0]) (by simp [results, Tryz.f40, go_sem, q0, q1]) rfl ⟨s1, t1, 0, rfl, HA.out, HE9.out.base⟩
        · have hne : Hid (u1.toList = s.toList → ¬ v1.toList = t.toList) := fun h1 h2 => heq ⟨by rw [toList_is h1, toList_str], by rw [toList_is h2, toList_str]⟩
          obtain ⟨ih0, _⟩ := HC.out.isH (i := m) (by omega)
          obtain ⟨ic0, _⟩ := HC.out.isC (i := m) (by omega)
          obtain ⟨z, hz⟩ : ∃ z, bAt bs m = z := ⟨_, rfl⟩
          rw [hz] at ih0 ic0
          have HFM : Hid (∀ V, Below w.heap.size w V → V.cell? ⟨b, off + m * 4, none⟩ = some (.string z.1.1) ∧ V.cell? ⟨b, off + m * 4 + 1, none⟩ = some (.string z.1.2) ∧ V.cell? ⟨b, off + m * 4 + 2, none⟩ = some (.string z.2.1) ∧ V.cell? ⟨b, off + m * 4 + 3, none⟩ = some (.string z.2.2)) := fun V hV => by rw [← hz]; exact HAT.out V hV m (by omega)
          obtain ⟨⟨s2, t2⟩, u2, v2⟩ := z
          dsimp only at HFM ih0 ic0
          have CT1 := Lib.hid (fun W => rsub_to IQ.out ih0 f4 rfl W)
          have CT2 := Lib.hid (fun W => rslope_to ic0 ih0 ic ih f2 f1 f8 (by have := (HC.out.up m hmn).1; grind) W)
          have CT3 := Lib.hid (fun W => rdiv_to f4 f8 f5 f9 f10 W)
          have CT4 := Lib.hid (fun W => radd_to ic0 f5 f6 rfl W)
          have HA : Hid (NeedA bs s t x6 y6 0) := .inr (.inr ⟨⟨HC.out, HSM.out⟩, by rw [HEL.out, HRQ.out]; exact HTOP.out, rfl, _, HNR.out, f6⟩)
          clear f1 f2 f3 f4 f5 f6 f7 f8 f9 f10 hm hmn hlow hup ih ic hk0 heq hz ih0 ic0 HNR IC IH HC IQ ZQ HRQ HTOP HUP HK
          go_wp2_with fail
          refine tsteps_plain [(true, 0), (true, 1), (true, 2), (true, 3), (true, 4), (true, 5), (true, 6), (true, 7), (true, 8), (true, 9), (true, 10)] (Env w.heap.size w [(w.heap.size + 1, pObj ⟨#[]⟩ ⟨#[]⟩), (w.heap.size, pObj s t)] []) (fun _ => false)
            (by kernel_rfl) (by kernel_rfl) (by kernel_rfl) (fun _ _ => rfl) (fun _ _ o _ _ h => by cases o <;> exact h) HE2.out.drew ?_
          obtain ⟨w3, hw3⟩ : ∃ z, w2.drew = z := ⟨_, rfl⟩
          have HE3 : Hid (Env w.heap.size w [(w.heap.size + 1, pObj ⟨#[]⟩ ⟨#[]⟩), (w.heap.size, pObj s t)] [] w3) := by rw [← hw3]; exact HE2.out.drew
          rw [hw3]
          clear hw3
          skip
          iterate 9
            refine steps_read _ rfl rfl (fun w' hS => by have c0 := hS.cell 1 0 (v := .string s) rfl rfl; have c1 := hS.cell 1 1 (v := .string t) rfl rfl; obtain ⟨a0, a1, a2, a3⟩ := HFK.out w' hS.base; go_simp; first | rfl | (rw [if_pos (by omega)])) ?_
            simp only [List.getElem_toArray, List.getElem_cons_succ, List.getElem_cons_zero, Act.put, List.setIfInBounds_toArray, List.set_cons_zero, List.set_cons_succ]
          refine steps_read (.bool false) rfl rfl (fun w' hS => by skip; go_simp; exact hne.out) ?_
          simp only [List.getElem_toArray, List.getElem_cons_succ, List.getElem_cons_zero, Act.put, List.setIfInBounds_toArray, List.set_cons_zero, List.set_cons_succ]
          iterate 1
            refine steps_read _ rfl rfl (fun w' hS => by skip; go_simp; first | rfl | (rw [if_pos (by omega)])) ?_
            simp only [List.getElem_toArray, List.getElem_cons_succ, List.getElem_cons_zero, Act.put, List.setIfInBounds_toArray, List.set_cons_zero, List.set_cons_succ]
          refine steps_end ?_
          go_wp2_with fail
          -- 'p := F2(F1(..))' in a block of its own, laid whenever: w0 the world, bs what is known of it
          obtain ⟨W, hWW⟩ : ∃ z0, z0 = w3 := ⟨_, rfl⟩
          rw [← hWW] at HE3
          have HR0 := Lib.hid HE3.out.drew
          go_wp2_with fail
          rw [← hWW]
          apply region_join (R := (fun G V => Env w.heap.size w ((G, pObj x4 y4) :: [(w.heap.size + 1, pObj ⟨#[]⟩ ⟨#[]⟩), (w.heap.size, pObj s t)]) [] V))
          case h =>
            refine float_plain 11 [(false, 12)] [(true, 0), (true, 1), (true, 2), (true, 3), (true, 4), (true, 5), (true, 6), (false, 7), (true, 8), (true, 9), (false, 10)] (Env w.heap.size w [(w.heap.size + 1, pObj ⟨#[]⟩ ⟨#[]⟩), (w.heap.size, pObj s t)] []) (by kernel_rfl) (by kernel_rfl) (fun _ _ _ _ _ h => by cases h.1) HR0.out ?_
            obtain ⟨V0, hV0⟩ : ∃ z0, W.drew = z0 := ⟨_, rfl⟩
            rw [hV0] at HR0 ⊢
            clear hV0
            skip
            iterate 7
              refine float_read _ rfl rfl (fun w' hS => by have c0 := hS.cell 1 0 (v := .string s) rfl rfl; have c1 := hS.cell 1 1 (v := .string t) rfl rfl; obtain ⟨a0, a1, a2, a3⟩ := HFM.out w' hS.base; go_simp; first | rfl | (rw [if_pos (by omega)])) ?_
              simp only [List.getElem_toArray, List.getElem_cons_succ, List.getElem_cons_zero, Act.put, List.setIfInBounds_toArray, List.set_cons_zero, List.set_cons_succ]
            refine float_write rfl rfl rfl rfl (fun K hK => ?_) (fun K hK => ?_)
            · skip
              go_simp
              obtain ⟨G, hG⟩ : ∃ G, V0.heap.size = G := ⟨_, rfl⟩
              obtain ⟨V1, hVV⟩ : ∃ z0, V0.alloc (pObj ⟨#[]⟩ ⟨#[]⟩) = z0 := ⟨_, rfl⟩
              have HR1 : Hid (Env w.heap.size w ((G, pObj ⟨#[]⟩ ⟨#[]⟩) :: [(w.heap.size + 1, pObj ⟨#[]⟩ ⟨#[]⟩), (w.heap.size, pObj s t)]) [] V1) := by rw [← hVV]; exact HR0.out.push _ hG.symm
              rw [hG, hVV]
              refine hK _ _ HR1.out.tail ?_
              clear hK K hVV hG
              refine steps_write rfl rfl fun K hK => ?_
              go_simp
              go_at_call 82
              have HRC := HR1
              refine (CT1.out _).mono ?_
              rintro e V2 ⟨rfl, hb⟩
              have HR2 := Lib.hid (HR1.out.step hb)
              refine hK _ _ (.inr HR2.out.tail) ?_
              clear hK K hb HRC
              iterate 2
                refine steps_read _ rfl rfl (fun w' hS => by have c0 := hS.cell 1 0 (v := .string s) rfl rfl; have c1 := hS.cell 1 1 (v := .string t) rfl rfl; obtain ⟨a0, a1, a2, a3⟩ := HFM.out w' hS.base; go_simp; first | rfl | (rw [if_pos (by omega)])) ?_
                simp only [List.getElem_toArray, List.getElem_cons_succ, List.getElem_cons_zero, Act.put, List.setIfInBounds_toArray, List.set_cons_zero, List.set_cons_succ]
              refine steps_write rfl rfl fun K hK => ?_
              go_simp
              go_at_call 81
              have HRC := HR2
              refine (rsure_any x4 y4 0 _).mono ?_
              rintro e V3 ⟨rfl, hb⟩
              have HR3 := Lib.hid (HR2.out.step hb)
              refine hK _ _ (.inr HR3.out.tail) ?_
              clear hK K hb HRC
              iterate 0
                refine steps_read _ rfl rfl (fun w' hS => by have c0 := hS.cell 1 0 (v := .string s) rfl rfl; have c1 := hS.cell 1 1 (v := .string t) rfl rfl; obtain ⟨a0, a1, a2, a3⟩ := HFM.out w' hS.base; go_simp; first | rfl | (rw [if_pos (by omega)])) ?_
                simp only [List.getElem_toArray, List.getElem_cons_succ, List.getElem_cons_zero, Act.put, List.setIfInBounds_toArray, List.set_cons_zero, List.set_cons_succ]
              have r0 := HR3.out.cell 0 0 (v := .string ⟨#[]⟩) rfl rfl
              have r1 := HR3.out.cell 0 1 (v := .string ⟨#[]⟩) rfl rfl
              have f0 := HR3.out.free 0 0 rfl
              have f1 := HR3.out.free 0 1 rfl
              refine steps_write rfl rfl fun K hK => ?_
              go_simp
              have HR9 := Lib.hid (HR3.out.fill (.string x4) (.string y4))
              refine hK _ _ (.inr HR9.out.tail) ?_
              clear hK K
              refine steps_end ?_
              exact ⟨rfl, G, rfl, HR9.out⟩
            · skip
              go_simp
              go_at_call 82
              have HRC := HR0
              refine (CT1.out _).mono ?_
              rintro e V1 ⟨rfl, hb⟩
              have HR1 := Lib.hid (HR0.out.step hb)
              refine hK _ _ HR1.out ?_
              clear hK K hb HRC
              iterate 2
                refine float_read _ rfl rfl (fun w' hS => by have c0 := hS.cell 1 0 (v := .string s) rfl rfl; have c1 := hS.cell 1 1 (v := .string t) rfl rfl; obtain ⟨a0, a1, a2, a3⟩ := HFM.out w' hS.base; go_simp; first | rfl | (rw [if_pos (by omega)])) ?_
                simp only [List.getElem_toArray, List.getElem_cons_succ, List.getElem_cons_zero, Act.put, List.setIfInBounds_toArray, List.set_cons_zero, List.set_cons_succ]
              refine float_write rfl rfl rfl rfl (fun K hK => ?_) (fun K hK => ?_)
              · skip
                go_simp
                obtain ⟨G, hG⟩ : ∃ G, V1.heap.size = G := ⟨_, rfl⟩
                obtain ⟨V2, hVV⟩ : ∃ z0, V1.alloc (pObj ⟨#[]⟩ ⟨#[]⟩) = z0 := ⟨_, rfl⟩
                have HR2 : Hid (Env w.heap.size w ((G, pObj ⟨#[]⟩ ⟨#[]⟩) :: [(w.heap.size + 1, pObj ⟨#[]⟩ ⟨#[]⟩), (w.heap.size, pObj s t)]) [] V2) := by rw [← hVV]; exact HR1.out.push _ hG.symm
                rw [hG, hVV]
                refine hK _ _ HR2.out.tail ?_
                clear hK K hVV hG
                refine steps_write rfl rfl fun K hK => ?_
                go_simp
                go_at_call 81
                have HRC := HR2
                refine (rsure_any x4 y4 0 _).mono ?_
                rintro e V3 ⟨rfl, hb⟩
                have HR3 := Lib.hid (HR2.out.step hb)
                refine hK _ _ (.inr HR3.out.tail) ?_
                clear hK K hb HRC
                iterate 0
                  refine steps_read _ rfl rfl (fun w' hS => by have c0 := hS.cell 1 0 (v := .string s) rfl rfl; have c1 := hS.cell 1 1 (v := .string t) rfl rfl; obtain ⟨a0, a1, a2, a3⟩ := HFM.out w' hS.base; go_simp; first | rfl | (rw [if_pos (by omega)])) ?_
                  simp only [List.getElem_toArray, List.getElem_cons_succ, List.getElem_cons_zero, Act.put, List.setIfInBounds_toArray, List.set_cons_zero, List.set_cons_succ]
                have r0 := HR3.out.cell 0 0 (v := .string ⟨#[]⟩) rfl rfl
                have r1 := HR3.out.cell 0 1 (v := .string ⟨#[]⟩) rfl rfl
                have f0 := HR3.out.free 0 0 rfl
                have f1 := HR3.out.free 0 1 rfl
                refine steps_write rfl rfl fun K hK => ?_
                go_simp
                have HR9 := Lib.hid (HR3.out.fill (.string x4) (.string y4))
                refine hK _ _ (.inr HR9.out.tail) ?_
                clear hK K
                refine steps_end ?_
                exact ⟨rfl, G, rfl, HR9.out⟩
              · skip
                go_simp
                go_at_call 81
                have HRC := HR1
                refine (rsure_any x4 y4 0 _).mono ?_
                rintro e V2 ⟨rfl, hb⟩
                have HR2 := Lib.hid (HR1.out.step hb)
                refine hK _ _ HR2.out ?_
                clear hK K hb HRC
                iterate 0
                  refine float_read _ rfl rfl (fun w' hS => by have c0 := hS.cell 1 0 (v := .string s) rfl rfl; have c1 := hS.cell 1 1 (v := .string t) rfl rfl; obtain ⟨a0, a1, a2, a3⟩ := HFM.out w' hS.base; go_simp; first | rfl | (rw [if_pos (by omega)])) ?_
                  simp only [List.getElem_toArray, List.getElem_cons_succ, List.getElem_cons_zero, Act.put, List.setIfInBounds_toArray, List.set_cons_zero, List.set_cons_succ]
                refine float_last rfl rfl fun K hK => ?_
                skip
                go_simp
                obtain ⟨G, hG⟩ : ∃ G, V2.heap.size = G := ⟨_, rfl⟩
                obtain ⟨V3, hVV⟩ : ∃ z0, V2.alloc (pObj ⟨#[]⟩ ⟨#[]⟩) = z0 := ⟨_, rfl⟩
                have HR3 : Hid (Env w.heap.size w ((G, pObj ⟨#[]⟩ ⟨#[]⟩) :: [(w.heap.size + 1, pObj ⟨#[]⟩ ⟨#[]⟩), (w.heap.size, pObj s t)]) [] V3) := by rw [← hVV]; exact HR2.out.push _ hG.symm
                rw [hG, hVV]
                refine hK _ _ HR3.out.tail ?_
                clear hK K hVV hG
                have r0 := HR3.out.cell 0 0 (v := .string ⟨#[]⟩) rfl rfl
                have r1 := HR3.out.cell 0 1 (v := .string ⟨#[]⟩) rfl rfl
                have f0 := HR3.out.free 0 0 rfl
                have f1 := HR3.out.free 0 1 rfl
                refine steps_write rfl rfl fun K hK => ?_
                go_simp
                have HR9 := Lib.hid (HR3.out.fill (.string x4) (.string y4))
                refine hK _ _ (.inr HR9.out.tail) ?_
                clear hK K
                refine steps_end ?_
                exact ⟨rfl, G, rfl, HR9.out⟩
          case k =>
            rintro G w4 hE4
            have HE4 := Lib.hid hE4
            clear hE4 hWW HR0
            try dsimp only
            go_wp2_with fail
            obtain ⟨W, hW⟩ : ∃ z, w4.drew = z := ⟨_, rfl⟩
            have HE5 : Hid (Env w.heap.size w [(w.heap.size + 1, pObj ⟨#[]⟩ ⟨#[]⟩), (G, pObj x4 y4), (w.heap.size, pObj s t)] [] W) := by rw [← hW]; exact HE4.out.drew.only [1, 0, 2] _ rfl (by decide)
            refine tsteps_plain [(true, 0), (true, 1), (true, 2), (true, 3), (true, 4), (true, 5), (true, 6), (true, 7), (true, 8), (true, 9), (true, 10), (true, 11), (true, 12), (true, 13), (true, 14), (true, 15), (false, 16), (false, 17), (true, 18), (true, 19), (false, 20), (false, 21), (true, 22), (true, 23), (false, 24), (true, 25)] (fun V => ∃ o, Env w.heap.size w [(w.heap.size + 1, o), (G, pObj x4 y4), (w.heap.size, pObj s t)] [] V) (fun _ => false)
              (by kernel_rfl) (by kernel_rfl) (by kernel_rfl) (fun _ _ => rfl) (fun _ _ o _ _ h => by cases o <;> exact h) ⟨_, by rw [hW]; exact HE5.out⟩ ?_
            rw [hW]
            clear hW
            skip
            iterate 16
              refine steps_read _ rfl rfl (fun w' hS => by obtain ⟨o, hS⟩ := hS; have c0 := hS.cell 1 0 (v := .string x4) rfl rfl; have c1 := hS.cell 1 1 (v := .string y4) rfl rfl; obtain ⟨a0, a1, a2, a3⟩ := HFK.out w' hS.base; obtain ⟨b0, b1, b2, b3⟩ := HFM.out w' hS.base; go_simp; first | rfl | (rw [if_pos (by omega)])) ?_
              simp only [List.getElem_toArray, List.getElem_cons_succ, List.getElem_cons_zero, Act.put, List.setIfInBounds_toArray, List.set_cons_zero, List.set_cons_succ]
            -- as ECALL, where S says that the first block holds something
            refine steps_write rfl rfl fun K hK => ?_
            go_simp
            go_at_call 84
            have HEC := HE5
            refine (CT2.out _).mono ?_
            rintro e w6 ⟨rfl, hb⟩
            have HE6 := Lib.hid (HE5.out.step hb)
            refine hK _ _ (.inr ⟨_, HE6.out⟩) ?_
            clear hK K hb HEC
            -- as ECALL, where S says that the first block holds something
            refine steps_write rfl rfl fun K hK => ?_
            go_simp
            go_at_call 89
            have HEC := HE6
            refine (CT3.out _).mono ?_
            rintro e w7 ⟨rfl, hb⟩
            have HE7 := Lib.hid (HE6.out.step hb)
            refine hK _ _ (.inr ⟨_, HE7.out⟩) ?_
            clear hK K hb HEC
            iterate 2
              refine steps_read _ rfl rfl (fun w' hS => by skip; go_simp; first | rfl | (rw [if_pos (by omega)])) ?_
              simp only [List.getElem_toArray, List.getElem_cons_succ, List.getElem_cons_zero, Act.put, List.setIfInBounds_toArray, List.set_cons_zero, List.set_cons_succ]
            -- as ECALL, where S says that the first block holds something
            refine steps_write rfl rfl fun K hK => ?_
            go_simp
            go_at_call 81
            have HEC := HE7
            refine (rsure_any x5 y5 0 _).mono ?_
            rintro e w8 ⟨rfl, hb⟩
            have HE8 := Lib.hid (HE7.out.step hb)
            refine hK _ _ (.inr ⟨_, HE8.out⟩) ?_
            clear hK K hb HEC
            -- as ECALL, where S says that the first block holds something
            refine steps_write rfl rfl fun K hK => ?_
            go_simp
            go_at_call 83
            have HEC := HE8
            refine (CT4.out _).mono ?_
            rintro e w9 ⟨rfl, hb⟩
            have HE9 := Lib.hid (HE8.out.step hb)
            refine hK _ _ (.inr ⟨_, HE9.out⟩) ?_
            clear hK K hb HEC
            iterate 2
              refine steps_read _ rfl rfl (fun w' hS => by skip; go_simp; first | rfl | (rw [if_pos (by omega)])) ?_
              simp only [List.getElem_toArray, List.getElem_cons_succ, List.getElem_cons_zero, Act.put, List.setIfInBounds_toArray, List.set_cons_zero, List.set_cons_succ]
            -- in a region: the store into the first block
            have r0 := HE9.out.cell 0 0 rfl rfl
            have r1 := HE9.out.cell 0 1 rfl rfl
            have f0 := HE9.out.free 0 0 rfl
            have f1 := HE9.out.free 0 1 rfl
            refine steps_write rfl rfl fun K hK => ?_
            go_simp
            have HE10 := Lib.hid (HE9.out.fill (.string x6) (.string y6))
            refine hK _ _ (.inr ⟨_, HE10.out⟩) ?_
            clear hK K r0 r1 f0 f1
            iterate 1
              refine steps_read _ rfl rfl (fun w' hS => by skip; go_simp; first | rfl | (rw [if_pos (by omega)])) ?_
              simp only [List.getElem_toArray, List.getElem_cons_succ, List.getElem_cons_zero, Act.put, List.setIfInBounds_toArray, List.set_cons_zero, List.set_cons_succ]
            refine steps_end ?_
            go_wp2
            skip
            have q0 := HE10.out.cell 0 0 (v := .string x6) rfl rfl
            have q1 := HE10.out.cell 0 1 (v := .string y6) rfl rfl
            exact bodyPost_ret (v := .tuple #[.agg #[.string x6, .string y6], .int .i64 0]) (by simp [results, Tryz.f40, go_sem, q0, q1]) rfl ⟨x6, y6, 0, rfl, HA.out, HE10.out.base⟩
end Go.Proofs.YtcncdepjbhnknaaGreatDoor
namespace Go.Proofs.YtcncdepjbhnknaaGreatDoor
open Go.RowKit Go.Shelf
attribute [local go_sem ↓] Go.wp_at_zero Go.wp_at_succ

set_option maxRecDepth 100000 in
set_option maxHeartbeats 8000000 in
theorem chances_law {v : Value} {bs : List BB} {w : World} (hv : BL w v bs) (s1 t1 s2 t2 : ByteArray) (hD : DetV w) (hT : Tabs w) :
    Calls Tryz.prog 9 #[v, .agg #[.string s1, .string t1], .agg #[.string s2, .string t2]] w (BoolPost w true) := by
  obtain ⟨n, hn⟩ : ∃ n, bs.length = n := ⟨_, rfl⟩
  obtain ⟨p, c, rfl⟩ : ∃ p c, v = .slice p n c := by obtain ⟨p, c, h, _⟩ := id hv; exact ⟨_, _, by rw [← hn]; exact h⟩
  have HV := Lib.hid hv
  have HT := Lib.hid hT
  have HD := Lib.hid hD
  clear hv hn hT hD
  go_enter Tryz.func9, Tryz.ntmps9
  have HE0 : Hid (Env w.heap.size w [(w.heap.size + 1, pObj s2 t2), (w.heap.size, pObj s1 t1)] [] ((w.alloc (pObj s1 t1)).alloc (pObj s2 t2))) := ((Env.start w).push (pObj s1 t1) rfl).push _ (by simp)
  go_wp2_with fail
  refine (great_any (HV.out.after HE0.out.base (Nat.le_refl _))).mono ?_
  rintro e w1 ⟨r, rfl, hG, hb⟩
  have HE1 := Lib.hid (HE0.out.step hb)
  clear hb HE0
  cases r
  rotate_left
  · clear hG
    go_wp2_with fail
    skip
    have HEC := HE1
    refine (alive_any _ (HD.out.below HEC.out.base (Nat.le_refl _)) (HT.out.below HEC.out.base (Nat.le_refl _))).mono ?_
    rintro e w2 ⟨rfl, hb⟩
    have HE2 := Lib.hid (HE1.out.step hb)
    clear hb HEC
    go_wp2
    go_ret
    exact ⟨rfl, HE2.out.base⟩
  have HGR := Lib.hid (hG rfl)
  have HLM := Lib.hid (few_lim HGR.out.2)
  clear hG
  have c0 := HE1.out.cell 1 0 (v := .string s1) rfl rfl
  have c1 := HE1.out.cell 1 1 (v := .string t1) rfl rfl
  have d0 := HE1.out.cell 0 0 (v := .string s2) rfl rfl
  have d1 := HE1.out.cell 0 1 (v := .string t2) rfl rfl
  go_wp2_with fail
  have HE2 := Lib.hid (HE1.out.push (.cells #[.string s1, .string t1, .string s2, .string t2] 46) rfl).tail
  clear c0 c1 d0 d1
  refine (long_any (pl_two _ s1 t1 s2 t2)).mono ?_
  rintro e w3 ⟨r, rfl, hL, hb⟩
  have HE3 := Lib.hid (HE2.out.step hb)
  clear hb HE2 HE1
  cases r
  rotate_left
  · clear hL
    go_wp2_with fail
    skip
    have HEC := HE3
    refine (alive_any _ (HD.out.below HEC.out.base (Nat.le_refl _)) (HT.out.below HEC.out.base (Nat.le_refl _))).mono ?_
    rintro e w4 ⟨rfl, hb⟩
    have HE4 := Lib.hid (HE3.out.step hb)
    clear hb HEC
    go_wp2
    go_ret
    exact ⟨rfl, HE4.out.base⟩
  obtain ⟨hl1, _⟩ := hL rfl
  have q1 := hl1 (s1, t1) (by simp)
  have q2 := hl1 (s2, t2) (by simp)
  dsimp only at q1 q2
  have HQ : Hid ((s1.size ≤ 1000000 ∧ t1.size ≤ 1000000) ∧ s2.size ≤ 1000000 ∧ t2.size ≤ 1000000) := ⟨⟨by omega, by omega⟩, by omega, by omega⟩
  clear hL hl1 q1 q2
  skip
  have c0 := HE3.out.cell 1 0 (v := .string s1) rfl rfl
  have c1 := HE3.out.cell 1 1 (v := .string t1) rfl rfl
  go_wp2_with fail
  have HEC := HE3
  refine (dChance_any (HV.out.after HEC.out.base (Nat.le_refl _)) HLM.out HQ.out.1.1 HQ.out.1.2 (HD.out.below HEC.out.base (Nat.le_refl _)) (HT.out.below HEC.out.base (Nat.le_refl _))).mono ?_
  rintro e w4 ⟨x1, y1, n1, rfl, h, hb⟩
  have HE4 : Hid (Env w.heap.size w ((w4.heap.size, pObj x1 y1) :: _) [] (w4.alloc (pObj x1 y1))) := (HE3.out.step hb).push _ rfl
  have A1 := Lib.hid h
  clear h hb HEC c0 c1
  have c0 := HE4.out.cell 2 0 (v := .string s1) rfl rfl
  have c1 := HE4.out.cell 2 1 (v := .string t1) rfl rfl
  go_wp2_with fail
  have HEC := HE4
  refine (rchance_any (HV.out.after HEC.out.base (Nat.le_refl _)) HLM.out HQ.out.1.1 HQ.out.1.2).mono ?_
  rintro e w5 ⟨x2, y2, n2, rfl, h, hb⟩
  have HE5 : Hid (Env w.heap.size w ((w5.heap.size, pObj x2 y2) :: _) [] (w5.alloc (pObj x2 y2))) := (HE4.out.step hb).push _ rfl
  have A2 := Lib.hid h
  clear h hb HEC c0 c1
  obtain ⟨rfl, rfl, rfl⟩ := A1.out.det A2.out
  skip
  have c0 := HE5.out.cell 3 0 (v := .string s1) rfl rfl
  have c1 := HE5.out.cell 3 1 (v := .string t1) rfl rfl
  go_wp2_with fail
  have HEC := HE5
  refine (dSlope_any (HV.out.after HEC.out.base (Nat.le_refl _)) HLM.out HQ.out.1.1 HQ.out.1.2 (HD.out.below HEC.out.base (Nat.le_refl _)) (HT.out.below HEC.out.base (Nat.le_refl _))).mono ?_
  rintro e w6 ⟨x3, y3, n3, rfl, h, hb⟩
  have HE6 : Hid (Env w.heap.size w ((w6.heap.size, pObj x3 y3) :: _) [] (w6.alloc (pObj x3 y3))) := (HE5.out.step hb).push _ rfl
  have A3 := Lib.hid h
  clear h hb HEC c0 c1
  have c0 := HE6.out.cell 4 0 (v := .string s1) rfl rfl
  have c1 := HE6.out.cell 4 1 (v := .string t1) rfl rfl
  go_wp2_with fail
  have HEC := HE6
  refine (rslope_any (HV.out.after HEC.out.base (Nat.le_refl _)) HLM.out HQ.out.1.1 HQ.out.1.2).mono ?_
  rintro e w7 ⟨x4, y4, n4, rfl, h, hb⟩
  have HE7 : Hid (Env w.heap.size w ((w7.heap.size, pObj x4 y4) :: _) [] (w7.alloc (pObj x4 y4))) := (HE6.out.step hb).push _ rfl
  have A4 := Lib.hid h
  clear h hb HEC c0 c1
  obtain ⟨rfl, rfl, rfl⟩ := A3.out.det A4.out
  skip
  have c0 := HE7.out.cell 4 0 (v := .string s2) rfl rfl
  have c1 := HE7.out.cell 4 1 (v := .string t2) rfl rfl
  go_wp2_with fail
  have HEC := HE7
  refine (dNeed_any (HV.out.after HEC.out.base (Nat.le_refl _)) HLM.out HQ.out.2.1 HQ.out.2.2 (HD.out.below HEC.out.base (Nat.le_refl _)) (HT.out.below HEC.out.base (Nat.le_refl _))).mono ?_
  rintro e w8 ⟨x5, y5, n5, rfl, h, hb⟩
  have HE8 : Hid (Env w.heap.size w ((w8.heap.size, pObj x5 y5) :: _) [] (w8.alloc (pObj x5 y5))) := (HE7.out.step hb).push _ rfl
  have A5 := Lib.hid h
  clear h hb HEC c0 c1
  have c0 := HE8.out.cell 5 0 (v := .string s2) rfl rfl
  have c1 := HE8.out.cell 5 1 (v := .string t2) rfl rfl
  go_wp2_with fail
  have HEC := HE8
  refine (rneed_any (HV.out.after HEC.out.base (Nat.le_refl _)) HLM.out HQ.out.2.1 HQ.out.2.2).mono ?_
  rintro e w9 ⟨x6, y6, n6, rfl, h, hb⟩
  have HE9 : Hid (Env w.heap.size w ((w9.heap.size, pObj x6 y6) :: _) [] (w9.alloc (pObj x6 y6))) := (HE8.out.step hb).push _ rfl
  have A6 := Lib.hid h
  clear h hb HEC c0 c1
  obtain ⟨rfl, rfl, rfl⟩ := A5.out.det A6.out
  clear A1 A2 A3 A4 A5 A6
  skip
  have c0 := HE9.out.cell 5 0 (v := .string x1) rfl rfl
  have c1 := HE9.out.cell 5 1 (v := .string y1) rfl rfl
  have d0 := HE9.out.cell 4 0 (v := .string x1) rfl rfl
  have d1 := HE9.out.cell 4 1 (v := .string y1) rfl rfl
  go_wp2_with fail
  refine (same_yes x1 y1 n1 _).mono ?_
  rintro e w10 ⟨rfl, hb⟩
  have HE10 := Lib.hid (HE9.out.step hb)
  clear hb c0 c1 d0 d1
  have c0 := HE10.out.cell 3 0 (v := .string x3) rfl rfl
  have c1 := HE10.out.cell 3 1 (v := .string y3) rfl rfl
  have d0 := HE10.out.cell 2 0 (v := .string x3) rfl rfl
  have d1 := HE10.out.cell 2 1 (v := .string y3) rfl rfl
  go_wp2_with fail
  refine (same_yes x3 y3 n3 _).mono ?_
  rintro e w11 ⟨rfl, hb⟩
  have HE11 := Lib.hid (HE10.out.step hb)
  clear hb c0 c1 d0 d1
  have c0 := HE11.out.cell 1 0 (v := .string x5) rfl rfl
  have c1 := HE11.out.cell 1 1 (v := .string y5) rfl rfl
  have d0 := HE11.out.cell 0 0 (v := .string x5) rfl rfl
  have d1 := HE11.out.cell 0 1 (v := .string y5) rfl rfl
  go_wp2_with fail
  refine (same_yes x5 y5 n5 _).mono ?_
  rintro e w12 ⟨rfl, hb⟩
  have HE12 := Lib.hid (HE11.out.step hb)
  clear hb c0 c1 d0 d1
  go_wp2_with fail
  skip
  have HEC := HE12
  refine (alive_any _ (HD.out.below HEC.out.base (Nat.le_refl _)) (HT.out.below HEC.out.base (Nat.le_refl _))).mono ?_
  rintro e w13 ⟨rfl, hb⟩
  have HE13 := Lib.hid (HE12.out.step hb)
  clear hb HEC
  go_wp2
  go_ret
  exact ⟨rfl, HE13.out.base⟩
end Go.Proofs.YtcncdepjbhnknaaGreatDoor
namespace Go.Proofs.YtcncdepjbhnknaaGreatDoor
open Go.ChangeShapes Go.WideShapes Go.ChangeAt Go.RowKit

set_option maxRecDepth 100000 in
theorem chances_lifted (os : Os) (started : os.Started) (H : Type) (enc : TypeId × Value → H) :
    ReturnsInHanded {} Tryz.checked os 9 .any (fun w args => (Rows.detectChancesSpec.pre enc Tryz.prog Tryz.f9 Rows.detectChancesRow.domain false w args ∧ laidMetH Tryz.prog laid9 w) ∧ sizedMet enc Tryz.prog Tryz.f9 (OpenSpec.ofChange Rows.detectChancesSpec) false w args)
      (Rows.detectChancesSpec.post enc Tryz.prog Tryz.f9 false true false false) := by
  refine returnsInHanded_of_change_and (C := Tryz.checked) (X := fun w _ => laidMetH Tryz.prog laid9 w) (fun _ _ _ hh h => h.of_heap hh) own_seat started (by kernel_rfl) Tryz.func9
    (ChangeSpec.witness_shaped (enc := enc) (C := Tryz.checked) (os := os) (X := fun w _ => laidMetH Tryz.prog laid9 w) false (World.laidAll Tryz.prog os laid9) #[.slice none 0 0, .agg #[.string ⟨#[]⟩, .string ⟨#[]⟩], .agg #[.string ⟨#[]⟩, .string ⟨#[]⟩]] 8 (World.laidAll_os _ _ _)
      (World.shaped_of_ZipB (by kernel_rfl) (by kernel_rfl)) (by kernel_rfl) (by kernel_rfl) (by kernel_rfl) (met9 os _)) ?_
  intro W base args ds gs before hval0 hW hc _ hL _
  have hval : ∀ (j : Nat) t v, Tryz.f9.params[j]? = some t → args[j]? = some v → Value.okWide Tryz.prog W .any base t v := hval0
  have hW' := hW
  obtain ⟨p, q, hA0, hV, rfl, _, _⟩ := hW
  have hA : DataW.TrodAll enc Tryz.prog W 0 (fun _ => true) true Tryz.f9.params.toList args.toList ds p := hA0
  rw [Tryz.params9] at hA hval
  obtain ⟨v0, v1, v2, d0, d1, d2, p0, p1, p2, rfl, rfl, rfl, h0, h1, h2⟩ := trodAll_three hA
  obtain ⟨rfl, rfl⟩ := trodVars_none hV
  obtain ⟨bs0, hb0⟩ := open_bends (hval 0 _ v0 rfl rfl) h0
  obtain ⟨s1, t1, rfl, rfl⟩ := open_part (hval 1 _ v1 rfl rfl) h1
  obtain ⟨s2, t2, rfl, rfl⟩ := open_part (hval 2 _ v2 rfl rfl) h2
  clear hA0 hval0
  simp only [List.append_nil] at hW'
  refine (chances_law hb0 s1 t1 s2 t2 (detV_of_laid9 hL) (tabs_of_laid9 hL)).mono fun e W' ⟨he, bel⟩ => ?_
  subst he
  have nx : ∀ x ∈ ([] : List MemPlace), x.block < W.heap.size := fun _ h => by cases h
  have hlt0 : ∀ x ∈ p0, x.block < W.heap.size := fun x hx => by first | (have := hW'.lt x hx; simpa using this) | (have := hW'.lt x (by simp [hx]); simpa using this)
  refine ⟨_, rfl, _, _, _, [], p0, [], hW', ?_, ?_, ?_, bel.frame _, fun h => by cases h⟩
  · exact trodAll_mk1 (shut_bool Tryz.underlying4 _)
  · have h9 := trodAll_mk3 (Below.trod out_seat (by kernel_rfl) (of_decide_eq_true (by kernel_rfl)) h0 bel hlt0) (Below.trod out_seat (by kernel_rfl) (of_decide_eq_true (by kernel_rfl)) h1 bel nx) (Below.trod out_seat (by kernel_rfl) (of_decide_eq_true (by kernel_rfl)) h2 bel nx)
    first | exact h9 | (simp only [List.append_nil, List.nil_append] at h9; exact h9) | (simpa using h9)
  · rfl
end Go.Proofs.YtcncdepjbhnknaaGreatDoor
