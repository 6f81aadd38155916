/- The parts Join, RChance of a proof, put together by program (merge6.py). -/
import Derived.Test.YtcncdepjbhnknaaGreatDoorH13
import Derived.Test.YtcncdepjbhnknaaGreatDoorH12
import Derived.Test.YtcncdepjbhnknaaGreatDoorR06
set_option linter.unusedVariables false
set_option linter.unusedSimpArgs false
namespace Go.Proofs.YtcncdepjbhnknaaGreatDoor
open Go.RowKit Go.Shelf

def JoinQ (F : Nat → Act) (R : Nat → World → Prop) (c : Exit) (a : Act) (w : World) : Prop := c = .normal ∧ ∃ G, a = F G ∧ R G w
theorem region_join {P : Program} {c : Code} {Q : Exit → Act → World → Prop} {a : Act} {w : World} (F : Nat → Act) (R : Nat → World → Prop) (h : c.wp P (JoinQ F R) a w) (k : ∀ G w', R G w' → Q .normal (F G) w') : c.wp P Q a w :=
  wp_mono h fun e a' w' ⟨he, G, ha, hR⟩ => by
    subst he ha
    exact k G w' hR
end Go.Proofs.YtcncdepjbhnknaaGreatDoor
namespace Go.Proofs.YtcncdepjbhnknaaGreatDoor
open Go.RowKit Go.Shelf
attribute [local go_sem ↓] Go.wp_at_zero Go.wp_at_succ

set_option maxRecDepth 100000 in
set_option maxHeartbeats 8000000 in
theorem rchance_any {v : Value} {bs : List BB} {w : World} {s t : ByteArray} (hv : BL w v bs) (hz : LimB bs) (hs : s.size ≤ 1000000) (ht : t.size ≤ 1000000) :
    Calls Tryz.prog 37 #[v, pV s t] w (PartPost (ChanceA bs s t) w) := by
  obtain ⟨n, hn⟩ : ∃ n, bs.length = n := ⟨_, rfl⟩
  obtain ⟨p, c, rfl⟩ : ∃ p c, v = .slice p n c := by obtain ⟨p, c, h, _⟩ := id hv; exact ⟨_, _, by rw [← hn]; exact h⟩
  obtain ⟨_, hcc, hnc⟩ := hv.len
  have HL := Lib.hid hn
  have HV := Lib.hid hv
  have HZ := Lib.hid hz
  have HSZ : Hid (s.size ≤ 1000000 ∧ t.size ≤ 1000000) := ⟨hs, ht⟩
  clear hv hn hz hs ht
  go_enter Tryz.func37, Tryz.ntmps37
  have HE0 : Hid (Env w.heap.size w [(w.heap.size + 1, pObj ⟨#[]⟩ ⟨#[]⟩), (w.heap.size, pObj s t)] [] ((w.alloc (pObj s t)).alloc (pObj ⟨#[]⟩ ⟨#[]⟩))) := ((Env.start w).push (pObj s t) rfl).push _ (by simp)
  go_wp2_with fail
  refine (rcurve_any (HV.out.after HE0.out.base (Nat.le_refl _)) HZ.out).mono ?_
  rintro e w1 ⟨r, rfl, hr, hb⟩
  have HE1 := Lib.hid (HE0.out.step hb)
  have HR := Lib.hid hr
  clear hb hr HE0
  cases r
  · have HNO : Hid (¬ (CurveP bs ∧ smallP 300 (s, t) = true)) := fun h => by have := HR.out.2 h.1; cases this
    skip
    have HA : Hid (ChanceA bs s t ⟨#[]⟩ ⟨#[]⟩ 2) := .inl ⟨HNO.out, rfl, rfl, rfl⟩
    skip
    -- ahead of a walk: what the first block holds
    have r0 := HE1.out.cell 0 0 rfl rfl
    have r1 := HE1.out.cell 0 1 rfl rfl
    have f0 := HE1.out.free 0 0 rfl
    have f1 := HE1.out.free 0 1 rfl
    go_wp2
    have HE9 := Lib.hid (HE1.out.fill (.string ⟨#[]⟩) (.string ⟨#[]⟩))
    skip
    have q0 := HE9.out.cell 0 0 (v := .string ⟨#[]⟩) rfl rfl
    have q1 := HE9.out.cell 0 1 (v := .string ⟨#[]⟩) rfl rfl
    exact bodyPost_ret (v := .tuple #[.agg #[.string ⟨#[]⟩, .string ⟨#[]⟩], .int .i64 2]) (by simp [results, Tryz.f37, go_sem, q0, q1]) rfl ⟨⟨#[]⟩, ⟨#[]⟩, 2, rfl, HA.out, HE9.out.base⟩
  · have HC := Lib.hid (HR.out.1 rfl)
    clear HR
    have c0 := HE1.out.cell 1 0 (v := .string s) rfl rfl
    have c1 := HE1.out.cell 1 1 (v := .string t) rfl rfl
    go_wp2_with fail
    refine (rdeep_any s t HSZ.out.1 HSZ.out.2 _).mono ?_
    rintro e w2 ⟨rfl, hb⟩
    have HE2 := Lib.hid (HE1.out.step hb)
    clear hb c0 c1 HE1
    cases hsm : smallP 300 (s, t)
    · have HNO : Hid (¬ (CurveP bs ∧ smallP 300 (s, t) = true)) := fun h => by rw [hsm] at h; cases h.2
      clear hsm
      skip
      have HA : Hid (ChanceA bs s t ⟨#[]⟩ ⟨#[]⟩ 2) := .inl ⟨HNO.out, rfl, rfl, rfl⟩
      skip
      -- ahead of a walk: what the first block holds
      have r0 := HE2.out.cell 0 0 rfl rfl
      have r1 := HE2.out.cell 0 1 rfl rfl
      have f0 := HE2.out.free 0 0 rfl
      have f1 := HE2.out.free 0 1 rfl
      go_wp2
      have HE9 := Lib.hid (HE2.out.fill (.string ⟨#[]⟩) (.string ⟨#[]⟩))
      skip
      have q0 := HE9.out.cell 0 0 (v := .string ⟨#[]⟩) rfl rfl
      have q1 := HE9.out.cell 0 1 (v := .string ⟨#[]⟩) rfl rfl
      exact bodyPost_ret (v := .tuple #[.agg #[.string ⟨#[]⟩, .string ⟨#[]⟩], .int .i64 2]) (by simp [results, Tryz.f37, go_sem, q0, q1]) rfl ⟨⟨#[]⟩, ⟨#[]⟩, 2, rfl, HA.out, HE9.out.base⟩
    · obtain ⟨isq, hz300⟩ := isP_small hsm
      have HSM := Lib.hid hsm
      obtain ⟨q, hq⟩ : ∃ q, ratP s t = q := ⟨_, rfl⟩
      dsimp only at isq hz300
      rw [hq] at isq hz300
      have HRQ := Lib.hid hq
      have IQ := Lib.hid isq
      have ZQ := Lib.hid hz300
      have c0 := HE2.out.cell 1 0 (v := .string s) rfl rfl
      have c1 := HE2.out.cell 1 1 (v := .string t) rfl rfl
      clear hsm isq hz300 hq
      go_wp2_with fail
      refine (rplace_any (HV.out.after HE2.out.base (Nat.le_refl _)) HC.out IQ.out).mono ?_
      rintro e w3 ⟨k, rfl, hp, hb⟩
      have HE3 := Lib.hid (HE2.out.step hb)
      have hkn := hp.1
      rw [HL.out] at hkn
      have HP := Lib.hid hp
      have hln := HC.out.len
      rw [HL.out] at hln
      obtain ⟨r, hr⟩ : ∃ r, n = r + 1 := ⟨n - 1, by omega⟩
      have e1 : IntKind.i64.wrap ((n : Int) - 1) = (r : Int) := by rw [IntWalk.i64_in _ (by omega)]; omega
      obtain ⟨b, off, rfl, hbl, hat⟩ := HV.out.at HL.out (by omega)
      have HAT := Lib.hid hat
      have k0' : (0 : Int) ≤ (k : Int) := by omega
      have k1' : (k : Int) < (n : Int) := by omega
      obtain ⟨ic, _⟩ := HC.out.isC (i := k) (by rw [HL.out]; exact hkn)
      obtain ⟨ih, _⟩ := HC.out.isH (i := k) (by rw [HL.out]; exact hkn)
      obtain ⟨z, hz⟩ : ∃ z, bAt bs k = z := ⟨_, rfl⟩
      rw [hz] at ic ih
      have HFK : Hid (∀ V, Below w.heap.size w V → V.cell? ⟨b, off + k * 4, none⟩ = some (.string z.1.1) ∧ V.cell? ⟨b, off + k * 4 + 1, none⟩ = some (.string z.1.2) ∧ V.cell? ⟨b, off + k * 4 + 2, none⟩ = some (.string z.2.1) ∧ V.cell? ⟨b, off + k * 4 + 3, none⟩ = some (.string z.2.2)) := fun V hV => by rw [← hz]; exact hat V hV k hkn
      obtain ⟨⟨s1, t1⟩, u1, v1⟩ := z
      dsimp only at HFK ic ih
      have IC := Lib.hid ic
      have IH := Lib.hid ih
      have HRN := Lib.hid hr
      clear hb hp c0 c1 HE2 hat hz ic ih hr
      by_cases hkr : k = r
      · have bk : ((k : Int) == (r : Int)) = true := by rw [beq_iff_eq, hkr]
        have HA : Hid (ChanceA bs s t u1 v1 0) := .inr ⟨⟨HC.out, HSM.out⟩, rfl, hR bs k, ⟨k, by rw [HRQ.out]; exact HP.out, by
          unfold lin slo
          rw [if_neg (by rw [HL.out, HRN.out, hkr]; omega)]
          grind⟩, IH.out⟩
        obtain ⟨a0, a1, a2, a3⟩ := HFK.out w3 HE3.out.base
        clear hkr
        skip
        -- ahead of a walk: what the first block holds
        have r0 := HE3.out.cell 0 0 rfl rfl
        have r1 := HE3.out.cell 0 1 rfl rfl
        have f0 := HE3.out.free 0 0 rfl
        have f1 := HE3.out.free 0 1 rfl
        go_wp2
        have HE9 := Lib.hid (HE3.out.fill (.string u1) (.string v1))
        skip
        have q0 := HE9.out.cell 0 0 (v := .string u1) rfl rfl
        have q1 := HE9.out.cell 0 1 (v := .string v1) rfl rfl
        exact bodyPost_ret (v := .tuple #[.agg #[.string u1, .string v1], .int .i64 0]) (by simp [results, Tryz.f37, go_sem, q0, q1]) rfl ⟨u1, v1, 0, rfl, HA.out, HE9.out.base⟩
      · have bk : ((k : Int) == (r : Int)) = false := by rw [beq_eq_false_iff_ne]; omega
        obtain ⟨m, hm⟩ : ∃ m, m = k + 1 := ⟨_, rfl⟩
        have e2 : IntKind.i64.wrap ((k : Int) + 1) = (m : Int) := by rw [IntWalk.i64_in _ (by omega)]; omega
        have hmn : k + 1 < bs.length := by have := HL.out; have := HRN.out; omega
        have m0' : (0 : Int) ≤ (m : Int) := by omega
        have m1' : (m : Int) < (n : Int) := by have := HL.out; omega
        obtain ⟨⟨x1, y1, f1⟩, ⟨x2, y2, f2⟩, ⟨x3, y3, f3⟩, ⟨x4, y4, f4⟩, ⟨x5, y5, f5⟩, ⟨x6, y6, f6⟩, f7, f8⟩ := chance_parts HC.out IQ.out.nn ZQ.out HP.out hmn
        obtain ⟨ic, _⟩ := HC.out.isC (i := k + 1) hmn
        obtain ⟨ih, _⟩ := HC.out.isH (i := k + 1) hmn
        obtain ⟨z, hz⟩ : ∃ z, bAt bs (k + 1) = z := ⟨_, rfl⟩
        rw [hz] at ic ih
        have HFM : Hid (∀ V, Below w.heap.size w V → V.cell? ⟨b, off + m * 4, none⟩ = some (.string z.1.1) ∧ V.cell? ⟨b, off + m * 4 + 1, none⟩ = some (.string z.1.2) ∧ V.cell? ⟨b, off + m * 4 + 2, none⟩ = some (.string z.2.1) ∧ V.cell? ⟨b, off + m * 4 + 3, none⟩ = some (.string z.2.2)) := fun V hV => by rw [← hz, hm]; exact HAT.out V hV (k + 1) (by have := HL.out; omega)
        obtain ⟨⟨s2, t2⟩, u2, v2⟩ := z
        dsimp only at HFM ic ih
        have CT1 := Lib.hid (fun W => rsub_to IQ.out IC.out f4 rfl W)
        have CT2 := Lib.hid (fun W => rslope_to IC.out IH.out ic ih f1 f2 f3 f8 W)
        have CT3 := Lib.hid (fun W => rmul_to f3 f4 f5 rfl W)
        have CT4 := Lib.hid (fun W => radd_to IH.out f5 f6 f7.symm W)
        have HA : Hid (ChanceA bs s t x6 y6 0) := .inr ⟨⟨HC.out, HSM.out⟩, rfl, _, ⟨k, by rw [HRQ.out]; exact HP.out, rfl⟩, by rw [HRQ.out]; exact f6⟩
        clear hz hm hmn ic ih f1 f2 f3 f4 f5 f6 f7 f8 hkr HP HC HSM HRQ IQ ZQ IC IH HRN
        skip
        go_wp2_with fail
        -- 'p := F2(F1(..))' in a block of its own, laid whenever: w0 the world, bs what is known of it
        obtain ⟨W, hWW⟩ : ∃ z0, z0 = w3 := ⟨_, rfl⟩
        rw [← hWW] at HE3
        have HR0 := Lib.hid HE3.out.drew
        go_wp2_with fail
        rw [← hWW]
        apply region_join (R := (fun G V => Env w.heap.size w ((G, pObj x4 y4) :: [(w.heap.size + 1, pObj ⟨#[]⟩ ⟨#[]⟩), (w.heap.size, pObj s t)]) [] V))
        case h =>
          refine float_plain 10 [(false, 11)] [(true, 0), (true, 1), (true, 2), (true, 3), (true, 4), (true, 5), (false, 6), (true, 7), (true, 8), (false, 9)] (Env w.heap.size w [(w.heap.size + 1, pObj ⟨#[]⟩ ⟨#[]⟩), (w.heap.size, pObj s t)] []) (by kernel_rfl) (by kernel_rfl) (fun _ _ _ _ _ h => by cases h.1) HR0.out ?_
          obtain ⟨V0, hV0⟩ : ∃ z0, W.drew = z0 := ⟨_, rfl⟩
          rw [hV0] at HR0 ⊢
          clear hV0
          skip
          iterate 6
            refine float_read _ rfl rfl (fun w' hS => by have c0 := hS.cell 1 0 (v := .string s) rfl rfl; have c1 := hS.cell 1 1 (v := .string t) rfl rfl; obtain ⟨a0, a1, a2, a3⟩ := HFK.out w' hS.base; go_simp; first | rfl | (rw [if_pos (by omega)])) ?_
            simp only [List.getElem_toArray, List.getElem_cons_succ, List.getElem_cons_zero, Act.put, List.setIfInBounds_toArray, List.set_cons_zero, List.set_cons_succ]
          refine float_write rfl rfl rfl rfl (fun K hK => ?_) (fun K hK => ?_)
          · skip
            go_simp
            obtain ⟨G, hG⟩ : ∃ G, V0.heap.size = G := ⟨_, rfl⟩
            obtain ⟨V1, hVV⟩ : ∃ z0, V0.alloc (pObj ⟨#[]⟩ ⟨#[]⟩) = z0 := ⟨_, rfl⟩
            have HR1 : Hid (Env w.heap.size w ((G, pObj ⟨#[]⟩ ⟨#[]⟩) :: [(w.heap.size + 1, pObj ⟨#[]⟩ ⟨#[]⟩), (w.heap.size, pObj s t)]) [] V1) := by rw [← hVV]; exact HR0.out.push _ hG.symm
            rw [hG, hVV]
            refine hK _ _ HR1.out.tail ?_
            clear hK K hVV hG
            refine steps_write rfl rfl fun K hK => ?_
            go_simp
            go_at_call 82
            have HRC := HR1
            refine (CT1.out _).mono ?_
            rintro e V2 ⟨rfl, hb⟩
            have HR2 := Lib.hid (HR1.out.step hb)
            refine hK _ _ (.inr HR2.out.tail) ?_
            clear hK K hb HRC
            iterate 2
              refine steps_read _ rfl rfl (fun w' hS => by have c0 := hS.cell 1 0 (v := .string s) rfl rfl; have c1 := hS.cell 1 1 (v := .string t) rfl rfl; obtain ⟨a0, a1, a2, a3⟩ := HFK.out w' hS.base; go_simp; first | rfl | (rw [if_pos (by omega)])) ?_
              simp only [List.getElem_toArray, List.getElem_cons_succ, List.getElem_cons_zero, Act.put, List.setIfInBounds_toArray, List.set_cons_zero, List.set_cons_succ]
            refine steps_write rfl rfl fun K hK => ?_
            go_simp
            go_at_call 81
            have HRC := HR2
            refine (rsure_any x4 y4 0 _).mono ?_
            rintro e V3 ⟨rfl, hb⟩
            have HR3 := Lib.hid (HR2.out.step hb)
            refine hK _ _ (.inr HR3.out.tail) ?_
            clear hK K hb HRC
            iterate 0
              refine steps_read _ rfl rfl (fun w' hS => by have c0 := hS.cell 1 0 (v := .string s) rfl rfl; have c1 := hS.cell 1 1 (v := .string t) rfl rfl; obtain ⟨a0, a1, a2, a3⟩ := HFK.out w' hS.base; go_simp; first | rfl | (rw [if_pos (by omega)])) ?_
              simp only [List.getElem_toArray, List.getElem_cons_succ, List.getElem_cons_zero, Act.put, List.setIfInBounds_toArray, List.set_cons_zero, List.set_cons_succ]
            have r0 := HR3.out.cell 0 0 (v := .string ⟨#[]⟩) rfl rfl
            have r1 := HR3.out.cell 0 1 (v := .string ⟨#[]⟩) rfl rfl
            have f0 := HR3.out.free 0 0 rfl
            have f1 := HR3.out.free 0 1 rfl
            refine steps_write rfl rfl fun K hK => ?_
            go_simp
            have HR9 := Lib.hid (HR3.out.fill (.string x4) (.string y4))
            refine hK _ _ (.inr HR9.out.tail) ?_
            clear hK K
            refine steps_end ?_
            exact ⟨rfl, G, rfl, HR9.out⟩
          · skip
            go_simp
            go_at_call 82
            have HRC := HR0
            refine (CT1.out _).mono ?_
            rintro e V1 ⟨rfl, hb⟩
            have HR1 := Lib.hid (HR0.out.step hb)
            refine hK _ _ HR1.out ?_
            clear hK K hb HRC
            iterate 2
              refine float_read _ rfl rfl (fun w' hS => by have c0 := hS.cell 1 0 (v := .string s) rfl rfl; have c1 := hS.cell 1 1 (v := .string t) rfl rfl; obtain ⟨a0, a1, a2, a3⟩ := HFK.out w' hS.base; go_simp; first | rfl | (rw [if_pos (by omega)])) ?_
              simp only [List.getElem_toArray, List.getElem_cons_succ, List.getElem_cons_zero, Act.put, List.setIfInBounds_toArray, List.set_cons_zero, List.set_cons_succ]
            refine float_write rfl rfl rfl rfl (fun K hK => ?_) (fun K hK => ?_)
            · skip
              go_simp
              obtain ⟨G, hG⟩ : ∃ G, V1.heap.size = G := ⟨_, rfl⟩
              obtain ⟨V2, hVV⟩ : ∃ z0, V1.alloc (pObj ⟨#[]⟩ ⟨#[]⟩) = z0 := ⟨_, rfl⟩
              have HR2 : Hid (Env w.heap.size w ((G, pObj ⟨#[]⟩ ⟨#[]⟩) :: [(w.heap.size + 1, pObj ⟨#[]⟩ ⟨#[]⟩), (w.heap.size, pObj s t)]) [] V2) := by rw [← hVV]; exact HR1.out.push _ hG.symm
              rw [hG, hVV]
              refine hK _ _ HR2.out.tail ?_
              clear hK K hVV hG
              refine steps_write rfl rfl fun K hK => ?_
              go_simp
              go_at_call 81
              have HRC := HR2
              refine (rsure_any x4 y4 0 _).mono ?_
              rintro e V3 ⟨rfl, hb⟩
              have HR3 := Lib.hid (HR2.out.step hb)
              refine hK _ _ (.inr HR3.out.tail) ?_
              clear hK K hb HRC
              iterate 0
                refine steps_read _ rfl rfl (fun w' hS => by have c0 := hS.cell 1 0 (v := .string s) rfl rfl; have c1 := hS.cell 1 1 (v := .string t) rfl rfl; obtain ⟨a0, a1, a2, a3⟩ := HFK.out w' hS.base; go_simp; first | rfl | (rw [if_pos (by omega)])) ?_
                simp only [List.getElem_toArray, List.getElem_cons_succ, List.getElem_cons_zero, Act.put, List.setIfInBounds_toArray, List.set_cons_zero, List.set_cons_succ]
              have r0 := HR3.out.cell 0 0 (v := .string ⟨#[]⟩) rfl rfl
              have r1 := HR3.out.cell 0 1 (v := .string ⟨#[]⟩) rfl rfl
              have f0 := HR3.out.free 0 0 rfl
              have f1 := HR3.out.free 0 1 rfl
              refine steps_write rfl rfl fun K hK => ?_
              go_simp
              have HR9 := Lib.hid (HR3.out.fill (.string x4) (.string y4))
              refine hK _ _ (.inr HR9.out.tail) ?_
              clear hK K
              refine steps_end ?_
              exact ⟨rfl, G, rfl, HR9.out⟩
            · skip
              go_simp
              go_at_call 81
              have HRC := HR1
              refine (rsure_any x4 y4 0 _).mono ?_
              rintro e V2 ⟨rfl, hb⟩
              have HR2 := Lib.hid (HR1.out.step hb)
              refine hK _ _ HR2.out ?_
              clear hK K hb HRC
              iterate 0
                refine float_read _ rfl rfl (fun w' hS => by have c0 := hS.cell 1 0 (v := .string s) rfl rfl; have c1 := hS.cell 1 1 (v := .string t) rfl rfl; obtain ⟨a0, a1, a2, a3⟩ := HFK.out w' hS.base; go_simp; first | rfl | (rw [if_pos (by omega)])) ?_
                simp only [List.getElem_toArray, List.getElem_cons_succ, List.getElem_cons_zero, Act.put, List.setIfInBounds_toArray, List.set_cons_zero, List.set_cons_succ]
              refine float_last rfl rfl fun K hK => ?_
              skip
              go_simp
              obtain ⟨G, hG⟩ : ∃ G, V2.heap.size = G := ⟨_, rfl⟩
              obtain ⟨V3, hVV⟩ : ∃ z0, V2.alloc (pObj ⟨#[]⟩ ⟨#[]⟩) = z0 := ⟨_, rfl⟩
              have HR3 : Hid (Env w.heap.size w ((G, pObj ⟨#[]⟩ ⟨#[]⟩) :: [(w.heap.size + 1, pObj ⟨#[]⟩ ⟨#[]⟩), (w.heap.size, pObj s t)]) [] V3) := by rw [← hVV]; exact HR2.out.push _ hG.symm
              rw [hG, hVV]
              refine hK _ _ HR3.out.tail ?_
              clear hK K hVV hG
              have r0 := HR3.out.cell 0 0 (v := .string ⟨#[]⟩) rfl rfl
              have r1 := HR3.out.cell 0 1 (v := .string ⟨#[]⟩) rfl rfl
              have f0 := HR3.out.free 0 0 rfl
              have f1 := HR3.out.free 0 1 rfl
              refine steps_write rfl rfl fun K hK => ?_
              go_simp
              have HR9 := Lib.hid (HR3.out.fill (.string x4) (.string y4))
              refine hK _ _ (.inr HR9.out.tail) ?_
              clear hK K
              refine steps_end ?_
              exact ⟨rfl, G, rfl, HR9.out⟩
        case k =>
          rintro G w4 hE4
          have HE4 := Lib.hid hE4
          clear hE4 hWW HR0
          try dsimp only
          go_wp2_with fail
          obtain ⟨W, hW⟩ : ∃ z, w4.drew = z := ⟨_, rfl⟩
          have HE5 : Hid (Env w.heap.size w [(w.heap.size + 1, pObj ⟨#[]⟩ ⟨#[]⟩), (G, pObj x4 y4), (w.heap.size, pObj s t)] [] W) := by rw [← hW]; exact HE4.out.drew.only [1, 0, 2] _ rfl (by decide)
          refine tsteps_plain [(true, 0), (true, 1), (true, 2), (true, 3), (true, 4), (true, 5), (true, 6), (true, 7), (true, 8), (true, 9), (true, 10), (true, 11), (true, 12), (true, 13), (true, 15), (false, 14), (false, 16), (true, 17), (true, 18), (false, 19), (false, 20), (true, 21), (true, 22), (false, 23), (true, 24)] (fun V => ∃ o, Env w.heap.size w [(w.heap.size + 1, o), (G, pObj x4 y4), (w.heap.size, pObj s t)] [] V) (fun _ => false)
            (by kernel_rfl) (by kernel_rfl) (by kernel_rfl) (fun _ _ => rfl) (fun _ _ o _ _ h => by cases o <;> exact h) ⟨_, by rw [hW]; exact HE5.out⟩ ?_
          rw [hW]
          clear hW
          skip
          iterate 15
            refine steps_read _ rfl rfl (fun w' hS => by obtain ⟨o, hS⟩ := hS; have c0 := hS.cell 1 0 (v := .string x4) rfl rfl; have c1 := hS.cell 1 1 (v := .string y4) rfl rfl; obtain ⟨a0, a1, a2, a3⟩ := HFK.out w' hS.base; obtain ⟨b0, b1, b2, b3⟩ := HFM.out w' hS.base; go_simp; first | rfl | (rw [if_pos (by omega)])) ?_
            simp only [List.getElem_toArray, List.getElem_cons_succ, List.getElem_cons_zero, Act.put, List.setIfInBounds_toArray, List.set_cons_zero, List.set_cons_succ]
          -- as ECALL, where S says that the first block holds something
          refine steps_write rfl rfl fun K hK => ?_
          go_simp
          go_at_call 84
          have HEC := HE5
          refine (CT2.out _).mono ?_
          rintro e w6 ⟨rfl, hb⟩
          have HE6 := Lib.hid (HE5.out.step hb)
          refine hK _ _ (.inr ⟨_, HE6.out⟩) ?_
          clear hK K hb HEC
          -- as ECALL, where S says that the first block holds something
          refine steps_write rfl rfl fun K hK => ?_
          go_simp
          go_at_call 78
          have HEC := HE6
          refine (CT3.out _).mono ?_
          rintro e w7 ⟨rfl, hb⟩
          have HE7 := Lib.hid (HE6.out.step hb)
          refine hK _ _ (.inr ⟨_, HE7.out⟩) ?_
          clear hK K hb HEC
          iterate 2
            refine steps_read _ rfl rfl (fun w' hS => by skip; go_simp; first | rfl | (rw [if_pos (by omega)])) ?_
            simp only [List.getElem_toArray, List.getElem_cons_succ, List.getElem_cons_zero, Act.put, List.setIfInBounds_toArray, List.set_cons_zero, List.set_cons_succ]
          -- as ECALL, where S says that the first block holds something
          refine steps_write rfl rfl fun K hK => ?_
          go_simp
          go_at_call 81
          have HEC := HE7
          refine (rsure_any x5 y5 0 _).mono ?_
          rintro e w8 ⟨rfl, hb⟩
          have HE8 := Lib.hid (HE7.out.step hb)
          refine hK _ _ (.inr ⟨_, HE8.out⟩) ?_
          clear hK K hb HEC
          -- as ECALL, where S says that the first block holds something
          refine steps_write rfl rfl fun K hK => ?_
          go_simp
          go_at_call 83
          have HEC := HE8
          refine (CT4.out _).mono ?_
          rintro e w9 ⟨rfl, hb⟩
          have HE9 := Lib.hid (HE8.out.step hb)
          refine hK _ _ (.inr ⟨_, HE9.out⟩) ?_
          clear hK K hb HEC
          iterate 2
            refine steps_read _ rfl rfl (fun w' hS => by skip; go_simp; first | rfl | (rw [if_pos (by omega)])) ?_
            simp only [List.getElem_toArray, List.getElem_cons_succ, List.getElem_cons_zero, Act.put, List.setIfInBounds_toArray, List.set_cons_zero, List.set_cons_succ]
          -- in a region: the store into the first block
          have r0 := HE9.out.cell 0 0 rfl rfl
          have r1 := HE9.out.cell 0 1 rfl rfl
          have f0 := HE9.out.free 0 0 rfl
          have f1 := HE9.out.free 0 1 rfl
          refine steps_write rfl rfl fun K hK => ?_
          go_simp
          have HE10 := Lib.hid (HE9.out.fill (.string x6) (.string y6))
          refine hK _ _ (.inr ⟨_, HE10.out⟩) ?_
          clear hK K r0 r1 f0 f1
          iterate 1
            refine steps_read _ rfl rfl (fun w' hS => by skip; go_simp; first | rfl | (rw [if_pos (by omega)])) ?_
            simp only [List.getElem_toArray, List.getElem_cons_succ, List.getElem_cons_zero, Act.put, List.setIfInBounds_toArray, List.set_cons_zero, List.set_cons_succ]
          refine steps_end ?_
          go_wp2
          skip
          have q0 := HE10.out.cell 0 0 (v := .string x6) rfl rfl
          have q1 := HE10.out.cell 0 1 (v := .string y6) rfl rfl
          exact bodyPost_ret (v := .tuple #[.agg #[.string x6, .string y6], .int .i64 0]) (by simp [results, Tryz.f37, go_sem, q0, q1]) rfl ⟨x6, y6, 0, rfl, HA.out, HE10.out.base⟩
end Go.Proofs.YtcncdepjbhnknaaGreatDoor
