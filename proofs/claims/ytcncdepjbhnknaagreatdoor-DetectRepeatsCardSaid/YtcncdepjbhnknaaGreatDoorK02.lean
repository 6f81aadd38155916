/- The parts LawRepeats, DRowList, DRowSight, LawRepeatsLift of a proof, put together by program (merge6.py). -/
import Derived.Test.YtcncdepjbhnknaaGreatDoorH21
import Derived.Test.YtcncdepjbhnknaaGreatDoorJ01
import Derived.Test.YtcncdepjbhnknaaGreatDoorJ06
import Derived.Test.YtcncdepjbhnknaaGreatDoorK01
import Derived.Test.YtcncdepjbhnknaaGreatDoorH13
import Derived.Deep.Cut
import Derived.Test.YtcncdepjbhnknaaGreatDoorH22
import Derived.Test.YtcncdepjbhnknaaGreatDoorH11
import Derived.Deep.SlicePairs
set_option linter.unusedVariables false
set_option linter.unusedSimpArgs false
/- DetectRepeats' walk. -/
namespace Go.Proofs.YtcncdepjbhnknaaGreatDoor
open Go.RowKit Go.Shelf
attribute [local go_sem ↓] Go.wp_at_zero Go.wp_at_succ
theorem sliced_form (p : Option Addr) (l h c s : Nat) : ∃ p' c', sliced p l h c s = .slice p' (h - l) c' := ⟨_, _, rfl⟩
theorem sliced_lo (p : Option Addr) (i c : Nat) : sliced p 0 i c 2 = .slice p i c := by cases p <;> simp [sliced, Addr.add]
theorem okE_orR (s t : ByteArray) : (okE s t = 2) ∨ (okE s t = 0 ∧ okP s t = true) := by
  cases h : okP s t
  · exact .inl (okE_no h)
  · exact .inr ⟨okE_yes h, rfl⟩
theorem PL.elemR {w : World} {p : Option Addr} {n c : Nat} {ps : List PP} (h : PL w (.slice p n c) ps) (hn : ps.length = n) (h0 : 0 < n) :
    ∃ b off, p = some ⟨b, off, none⟩ ∧ ∀ W, Below w.heap.size w W → ∀ k (hk : k < ps.length), W.cell? ⟨b, off + k * 2, none⟩ = some (.string ps[k].1) ∧ W.cell? ⟨b, off + k * 2 + 1, none⟩ = some (.string ps[k].2) := by
  obtain ⟨p', c', hv, _, _, h4⟩ := h
  injection hv with e1 e2 e3
  obtain ⟨b, off, rfl, hb, hat⟩ := h4 (List.ne_nil_of_length_pos (by omega))
  exact ⟨b, off, e1, fun W hW k hk => (hat.below hW hb) k hk⟩
theorem PL.shape {w : World} {v : Value} {ps : List PP} {n : Nat} (h : PL w v ps) (hn : ps.length = n) : ∃ p c, v = .slice p n c ∧ n ≤ c ∧ c ≤ 9223372036854775807 := by
  obtain ⟨p, c, h1, h2, h3, _⟩ := h
  unfold maxLen at h3
  exact ⟨p, c, by rw [← hn]; exact h1, by omega, h3⟩
set_option maxRecDepth 100000 in
set_option maxHeartbeats 16000000 in
theorem repeats_law {v v2 : Value} {bs : List BB} {ps : List PP} {w : World} (hv : BL w v bs) (hv2 : PL w v2 ps) (hf : PForm v2) (s2 t2 : ByteArray) (place : Nat) (hplace : place ≤ 255) (hD : DetV w) (hT : Tabs w) :
    Calls Tryz.prog 12 #[v, v2, .agg #[.string s2, .string t2], .int .u8 place] w (BoolPost w true) := by
  obtain ⟨n, hn⟩ : ∃ n, bs.length = n := ⟨_, rfl⟩
  obtain ⟨p, c, rfl⟩ : ∃ p c, v = .slice p n c := by obtain ⟨p, c, h, _⟩ := id hv; exact ⟨_, _, by rw [← hn]; exact h⟩
  obtain ⟨m, hm⟩ : ∃ n, ps.length = n := ⟨_, rfl⟩
  obtain ⟨p2, c2, rfl, hmc1, hmc2⟩ := hv2.shape hm
  have HV := Lib.hid hv
  have HV2 := Lib.hid hv2
  have HFM := Lib.hid hf
  have HM := Lib.hid hm
  have HT := Lib.hid hT
  have HD := Lib.hid hD
  have HPC := Lib.hid hplace
  clear hv hn hT hD hv2 hf hm hplace
  obtain ⟨i0, hi, hz0, hz1, hz2⟩ := info_parts info_part
  go_enter Tryz.func12, Tryz.ntmps12
  have HE0 := Lib.hid ((Env.start w).push (pObj s2 t2) rfl)
  go_wp2_with fail
  skip
  have HEC := HE0
  refine (alive_any _ (HD.out.below HEC.out.base (Nat.le_refl _)) (HT.out.below HEC.out.base (Nat.le_refl _))).mono ?_
  rintro e w1 ⟨rfl, hb⟩
  have HE1 := Lib.hid (HE0.out.step hb)
  clear hb HEC
  go_wp2_with fail
  refine (great_any (HV.out.after HE1.out.base (Nat.le_refl _))).mono ?_
  rintro e w2 ⟨r, rfl, hG, hb⟩
  have HE2 := Lib.hid (HE1.out.step hb)
  clear hb HE0 HE1
  cases r
  rotate_left
  · clear hG
    skip
    go_wp2
    go_ret
    exact ⟨rfl, HE2.out.base⟩
  have HGR := Lib.hid (hG rfl)
  have HLM := Lib.hid (few_lim HGR.out.2)
  clear hG
  by_cases h6 : (6 : Int) < (m : Int)
  · skip
    go_wp2
    go_ret
    exact ⟨rfl, HE2.out.base⟩
  have HM6 : Hid (m ≤ 6) := by show m ≤ 6; omega
  have h6d : decide ((6 : Int) < (m : Int)) = false := decide_eq_false h6
  go_wp2_with fail
  refine (short_any 8 (by decide) (HV2.out.after HE2.out.base (Nat.le_refl _))).mono ?_
  rintro e w3 ⟨rfl, hb⟩
  have HE3 := Lib.hid (HE2.out.step hb)
  clear hb HE2 h6d h6
  cases hsh : shortB 8 ps
  · clear hsh
    skip
    go_wp2
    go_ret
    exact ⟨rfl, HE3.out.base⟩
  have hs8 := shortB_iff.1 hsh
  have HZ2 : Hid (LimP ps) := fun p hp => ⟨Nat.le_trans (hs8 p hp).1 (by decide), Nat.le_trans (hs8 p hp).2 (by decide)⟩
  have c0 := HE3.out.cell 0 0 (v := .string s2) rfl rfl
  have c1 := HE3.out.cell 0 1 (v := .string t2) rfl rfl
  clear hsh hs8
  go_wp2_with fail
  clear c0 c1
  have HE4 := Lib.hid (HE3.out.push (.cells #[.string s2, .string t2] 46) rfl).tail
  refine (short_any 8 (by decide) (pl_single _ s2 t2)).mono ?_
  rintro e w5 ⟨rfl, hb⟩
  have HE5 := Lib.hid (HE4.out.step hb)
  clear hb HE3 HE4
  cases hsh : shortB 8 [(s2, t2)]
  · clear hsh
    skip
    go_wp2
    go_ret
    exact ⟨rfl, HE5.out.base⟩
  have hs8 := shortB_iff.1 hsh (s2, t2) (by simp)
  have HS8 := Lib.hid hs8
  clear hsh hs8
  go_wp2_with fail
  refine (dMiss_any (HV.out.after HE5.out.base (Nat.le_refl _)) HLM.out (HV2.out.after HE5.out.base (Nat.le_refl _)) HZ2.out (HD.out.below HE5.out.base (Nat.le_refl _)) (HT.out.below HE5.out.base (Nat.le_refl _))).mono ?_
  rintro e w6 ⟨x1, y1, n1, rfl, hA1, hb⟩
  obtain ⟨A, hAe⟩ : ∃ g, w6.heap.size = g := ⟨_, rfl⟩
  obtain ⟨w7, hw7⟩ : ∃ z, w6.alloc (pObj x1 y1) = z := ⟨_, rfl⟩
  have HE7 : Hid (Env w.heap.size w [(A, pObj x1 y1), (w.heap.size, pObj s2 t2)] [] w7) := by rw [← hw7]; exact (HE5.out.step hb).push _ hAe.symm
  have HA1 := Lib.hid hA1
  have hnum := hA1.nums
  clear hb hA1 HE5
  rcases hnum with rfl | rfl | rfl
  · skip
    go_wp2
    go_ret
    exact ⟨rfl, HE7.out.base⟩
  rotate_left
  · skip
    go_wp2
    go_ret
    exact ⟨rfl, HE7.out.base⟩
  have c0 := HE7.out.cell 1 0 (v := .string s2) rfl rfl
  have c1 := HE7.out.cell 1 1 (v := .string t2) rfl rfl
  go_wp2_with fail
  try rw [hAe]
  try rw [hw7]
  clear hAe hw7
  clear c0 c1
  refine (check_any s2 t2 _ (Nat.le_trans HS8.out.1 (by decide)) (Nat.le_trans HS8.out.2 (by decide))).mono ?_
  rintro e w8 ⟨rfl, hb⟩
  have HE8 := Lib.hid (HE7.out.step hb)
  clear hb HE7
  rcases okE_orR s2 t2 with h1 | ⟨h1, kb⟩
  · rw [h1]
    clear h1
    skip
    go_wp2
    go_ret
    exact ⟨rfl, HE8.out.base⟩
  rw [h1]
  have HOKP := Lib.hid kb
  clear h1 kb
  obtain ⟨q, hq⟩ : ∃ q, q = m + 1 := ⟨_, rfl⟩
  obtain ⟨i, hiq⟩ : ∃ i, place % q = i := ⟨_, rfl⟩
  have hiq2 : i < q := by rw [← hiq]; exact Nat.mod_lt _ (by omega)
  have HIM : Hid (i ≤ m) := by show i ≤ m; omega
  have e0 : IntKind.i64.wrap (place : Int) = (place : Int) := IntWalk.i64_in _ (by have := HPC.out; omega)
  have e1 : IntKind.i64.wrap ((m : Int) + 1) = (q : Int) := by have := HM6.out; rw [IntWalk.i64_in _ (by omega)]; omega
  have e2 : ((place : Int).tmod (q : Int)) = (i : Int) := by rw [← hiq, ← Int.ofNat_tmod]
  have e3 : IntKind.i64.wrap (i : Int) = (i : Int) := IntWalk.i64_in _ (by have := HM6.out; omega)
  have e4 : ((q : Int) == 0) = false := by rw [beq_eq_false_iff_ne]; omega
  have e5 : ¬ (q : Int) = 0 := by omega
  have HQ1 := Lib.hid hq
  have k0' : (0 : Int) ≤ (i : Int) := by omega
  have k1' : (i : Int) ≤ (m : Int) := by omega
  have k2' : (i : Int) ≤ (c2 : Int) := by omega
  clear hq hiq hiq2
  go_wp2_with fail
  obtain ⟨W, rfl⟩ : ∃ z, z = w8 := ⟨_, rfl⟩
  go_cut [13] from 20 (fun s13 wc => ∃ pa ca, s13 = .slice pa q ca ∧ Hid (PL wc (.slice pa q ca) (putL ps i (s2, t2))) ∧ Hid (Env w.heap.size w [(A, pObj x1 y1), (w.heap.size, pObj s2 t2)] [] wc))
  case first =>
    have HB0 : Hid (Below W.heap.size W W.drew) := (Below.refl _ W).drew
    have HES : Hid (∀ V, Below W.heap.size W V → Env w.heap.size w [(A, pObj x1 y1), (w.heap.size, pObj s2 t2)] [] V) := fun V hV => HE8.out.after hV (Nat.le_refl _)
    have hsr : SrcL W (.slice p2 m c2) m (pcells ps) := by
      have h := (HV2.out.after HE8.out.base (Nat.le_refl _)).src HFM.out
      rwa [HM.out] at h
    obtain ⟨phi, chi, hhi⟩ := sliced_form p2 i m c2 2
    have HLO : Hid (SrcL W (.slice p2 i c2) i (pcells (ps.take i))) := by
      have h := hsr.lo HIM.out
      rw [sliced_lo] at h
      exact h
    have HHI : Hid (SrcL W (.slice phi (m - i) chi) (m - i) (pcells (ps.drop i))) := by
      have h := hsr.hi HM.out hmc1 HIM.out
      rw [hhi] at h
      exact h
    unfold sliced at hhi
    injection hhi with hh1 hh2 hh3
    have HSH1 := Lib.hid hh1
    have HSH3 := Lib.hid hh3
    clear hsr hh1 hh2 hh3
    refine float_plain 6 [(false, 7), (false, 11), (true, 12)] [(true, 1), (true, 2), (true, 3), (true, 5), (true, 8), (true, 9), (true, 10), (false, 0), (false, 4)] (Env w.heap.size w [(A, pObj x1 y1), (w.heap.size, pObj s2 t2)] []) (by kernel_rfl) (by kernel_rfl) (fun _ _ o _ _ h => by cases o <;> exact h) (HES.out _ HB0.out) ?_
    obtain ⟨V0, hV0⟩ : ∃ z, W.drew = z := ⟨_, rfl⟩
    rw [hV0] at HB0 ⊢
    clear hV0
    skip
    iterate 2
      refine float_read _ rfl rfl (fun w' hS => by skip; go_simp; first | rfl | (rw [if_pos (by omega)])) ?_
      simp only [List.getElem_toArray, List.getElem_cons_succ, List.getElem_cons_zero, Act.put, List.setIfInBounds_toArray, List.set_cons_zero, List.set_cons_succ]
    iterate 1
      refine float_read _ rfl rfl (fun w' hS => by skip; go_simp; first | rfl | (rw [if_pos (by omega)])) ?_
      simp only [List.getElem_toArray, List.getElem_cons_succ, List.getElem_cons_zero, Act.put, List.setIfInBounds_toArray, List.set_cons_zero, List.set_cons_succ]
    iterate 3
      refine float_read _ rfl rfl (fun w' hS => by have c0 := hS.cell 1 0 (v := .string s2) rfl rfl; have c1 := hS.cell 1 1 (v := .string t2) rfl rfl; go_simp; first | rfl | (rw [if_pos (by omega)])) ?_
      simp only [List.getElem_toArray, List.getElem_cons_succ, List.getElem_cons_zero, Act.put, List.setIfInBounds_toArray, List.set_cons_zero, List.set_cons_succ]
    refine float_read (.slice phi (m - i) chi) rfl rfl (fun w' hS => by skip; go_simp; first|exact ⟨HSH1.out, HSH3.out⟩|exact HSH1.out|(have z1 := HSH1.out; have z3 := HSH3.out; simp_all)) ?_
    simp only [List.getElem_toArray, List.getElem_cons_succ, List.getElem_cons_zero, Act.put, List.setIfInBounds_toArray, List.set_cons_zero, List.set_cons_succ]
    refine float_write rfl rfl rfl rfl (fun K hK => ?_) (fun K hK => ?_)
    · skip
      go_simp
      obtain ⟨Bm, hBm⟩ : ∃ g, V0.heap.size = g := ⟨_, rfl⟩
      obtain ⟨V1, hVV⟩ : ∃ z, V0.alloc (.cells #[.string s2, .string t2] 46) = z := ⟨_, rfl⟩
      have HB1 : Hid (Below W.heap.size W V1) := by rw [← hVV]; exact HB0.out.alloc HB0.out.size _
      have HM1 : Hid (V1.heap[Bm]? = some (.cells #[.string s2, .string t2] 46)) := by rw [← hVV, ← hBm]; exact World.alloc_heap_new _ _
      have HZM : Hid (Bm = V0.heap.size) := hBm.symm
      rw [hBm, hVV]
      refine hK _ _ (HES.out _ HB1.out) ?_
      clear hK K hBm
      refine steps_write rfl rfl fun K hK => ?_
      skip
      go_simp
      obtain ⟨B0, hB0⟩ : ∃ g, V1.heap.size = g := ⟨_, rfl⟩
      have HO2 : Hid ((V1.alloc (.cells #[] 46)).ownsRow W.heap.size 46 2 (.slice (some ⟨B0, 0, none⟩) 0 0) 0 []) := by rw [← hB0]; exact World.ownsRow_lit V1 #[] 0 HB1.out.size (by simp [maxLen]) rfl
      obtain ⟨V2, hVN⟩ : ∃ z, V1.alloc (.cells #[] 46) = z := ⟨_, rfl⟩
      have HB2 : Hid (Below W.heap.size W V2) := by rw [← hVN]; exact HB1.out.alloc HB1.out.size _
      have HZN : Hid (B0 = V1.heap.size) := hB0.symm
      rw [hVN] at HO2
      rw [hB0, hVN]
      refine hK _ _ (.inr (HES.out _ HB2.out)) ?_
      clear hK K hB0
      have HM2 : Hid (V2.heap[Bm]? = some (.cells #[.string s2, .string t2] 46)) := by rw [← hVN, Below.heap_alloc _ _ _ (Array.getElem?_eq_some_iff.1 HM1.out).1]; exact HM1.out
      have hne : Bm ≠ B0 := by have h1 := (Array.getElem?_eq_some_iff.1 HM1.out).1; rw [← HZN.out] at h1; omega
      clear hVV hVN
      refine steps_write rfl rfl fun K hK => ?_
      skip
      refine wp_append_src _ _ 67 rfl W.heap.size 46 i0 (.agg #[.string ⟨#[]⟩, .string ⟨#[]⟩]) 2 32 Tryz.underlying67 hi hz0 hz1 hz2 rfl (by decide) (.slice (some ⟨B0, 0, none⟩) 0 0) (0) ([]) rfl HO2.out _ (i) (pcells (ps.take i)) rfl (HLO.out.after HB2.out) (by rw [pcells_length, List.length_take, HM.out, Nat.min_eq_left HIM.out]) (pcells_one _) (by have := HM6.out; have := HIM.out; unfold maxLen; omega) (by have := HM6.out; have := HIM.out; omega) HB2.out.size ?_
      intro vx V3 hown hgrow
      have HB3 : Hid (Below W.heap.size W V3) := HB2.out.grown hgrow HB2.out.size (fun z hz => (World.ownsRow.lt HO2.out z hz).1)
      have HO3 := Lib.hid (own_to hown (k := i) (by have := HIM.out; have := HQ1.out; omega))
      obtain ⟨rp3, rc3, rfl⟩ := own_shape HO3.out
      refine hK _ _ (.inr (HES.out _ HB3.out)) ?_
      clear hK K hown
      simp only [Act.put, List.setIfInBounds_toArray, List.set_cons_zero, List.set_cons_succ]
      have HM3 := Lib.hid (grown_keeps hgrow rfl HM2.out hne)
      clear hgrow hne
      skip
      refine steps_write rfl rfl fun K hK => ?_
      refine wp_append_src _ _ 67 rfl W.heap.size 46 i0 (.agg #[.string ⟨#[]⟩, .string ⟨#[]⟩]) 2 32 Tryz.underlying67 hi hz0 hz1 hz2 rfl (by decide) (.slice rp3 i rc3) (i) ([] ++ pcells (ps.take i)) rfl HO3.out _ (1) ([.string s2, .string t2]) rfl (SrcL.single HM3.out) rfl (by simp [Value.oneCell']) (by have := HM6.out; have := HIM.out; unfold maxLen; omega) (by have := HM6.out; have := HIM.out; omega) HB3.out.size ?_
      intro vx V4 hown hgrow
      have HB4 : Hid (Below W.heap.size W V4) := HB3.out.grown hgrow HB3.out.size (fun z hz => (World.ownsRow.lt HO3.out z hz).1)
      have HO4 := Lib.hid (own_to hown (k := i + 1) (by have := HIM.out; have := HQ1.out; omega))
      obtain ⟨rp4, rc4, rfl⟩ := own_shape HO4.out
      refine hK _ _ (.inr (HES.out _ HB4.out)) ?_
      clear hK K hown
      simp only [Act.put, List.setIfInBounds_toArray, List.set_cons_zero, List.set_cons_succ]
      clear hgrow
      refine steps_write rfl rfl fun K hK => ?_
      refine wp_append_src _ _ 67 rfl W.heap.size 46 i0 (.agg #[.string ⟨#[]⟩, .string ⟨#[]⟩]) 2 32 Tryz.underlying67 hi hz0 hz1 hz2 rfl (by decide) (.slice rp4 (i + 1) rc4) (i + 1) (([] ++ pcells (ps.take i)) ++ [.string s2, .string t2]) rfl HO4.out _ (m - i) (pcells (ps.drop i)) rfl (HHI.out.after HB4.out) (by rw [pcells_length, List.length_drop, HM.out]) (pcells_one _) (by have := HM6.out; have := HIM.out; unfold maxLen; omega) (by have := HM6.out; have := HIM.out; omega) HB4.out.size ?_
      intro vx V5 hown hgrow
      have HB5 : Hid (Below W.heap.size W V5) := HB4.out.grown hgrow HB4.out.size (fun z hz => (World.ownsRow.lt HO4.out z hz).1)
      have HO5 := Lib.hid (own_to hown (k := q) (by have := HIM.out; have := HQ1.out; omega))
      obtain ⟨rp5, rc5, rfl⟩ := own_shape HO5.out
      refine hK _ _ (.inr (HES.out _ HB5.out)) ?_
      clear hK K hown
      simp only [Act.put, List.setIfInBounds_toArray, List.set_cons_zero, List.set_cons_succ]
      clear hgrow
      skip
      iterate 1
        refine steps_read _ rfl rfl (fun w' hS => by skip; go_simp; first | rfl | (rw [if_pos (by omega)])) ?_
        simp only [List.getElem_toArray, List.getElem_cons_succ, List.getElem_cons_zero, Act.put, List.setIfInBounds_toArray, List.set_cons_zero, List.set_cons_succ]
      refine steps_end ?_
      have HEk : Hid (Env w.heap.size w [(A, pObj x1 y1), (w.heap.size, pObj s2 t2)] [] V5) := HES.out _ HB5.out
      have HPk : Hid (PL V5 (.slice rp5 q rc5) (putL ps i (s2, t2))) := by
        have h := HO5.out
        rw [putL_cells ps i (s2, t2)] at h
        have e9 : q = (putL ps i (s2, t2)).length := by rw [putL_len (by rw [HM.out]; exact HIM.out), HM.out]; exact HQ1.out
        rw [e9] at h ⊢
        exact Own.pl (base := W.heap.size) h
      go_wp2
      go_meet
      case rel => exact ⟨rp5, rc5, rfl, HPk, HEk⟩
    · skip
      go_simp
      obtain ⟨B0, hB0⟩ : ∃ g, V0.heap.size = g := ⟨_, rfl⟩
      have HO1 : Hid ((V0.alloc (.cells #[] 46)).ownsRow W.heap.size 46 2 (.slice (some ⟨B0, 0, none⟩) 0 0) 0 []) := by rw [← hB0]; exact World.ownsRow_lit V0 #[] 0 HB0.out.size (by simp [maxLen]) rfl
      obtain ⟨V1, hVN⟩ : ∃ z, V0.alloc (.cells #[] 46) = z := ⟨_, rfl⟩
      have HB1 : Hid (Below W.heap.size W V1) := by rw [← hVN]; exact HB0.out.alloc HB0.out.size _
      have HZN : Hid (B0 = V0.heap.size) := hB0.symm
      rw [hVN] at HO1
      rw [hB0, hVN]
      refine hK _ _ (HES.out _ HB1.out) ?_
      clear hK K hB0
      clear hVN
      refine float_write rfl rfl rfl rfl (fun K hK => ?_) (fun K hK => ?_)
      · skip
        go_simp
        obtain ⟨Bm, hBm⟩ : ∃ g, V1.heap.size = g := ⟨_, rfl⟩
        obtain ⟨V2, hVV⟩ : ∃ z, V1.alloc (.cells #[.string s2, .string t2] 46) = z := ⟨_, rfl⟩
        have HB2 : Hid (Below W.heap.size W V2) := by rw [← hVV]; exact HB1.out.alloc HB1.out.size _
        have HM2 : Hid (V2.heap[Bm]? = some (.cells #[.string s2, .string t2] 46)) := by rw [← hVV, ← hBm]; exact World.alloc_heap_new _ _
        have HZM : Hid (Bm = V1.heap.size) := hBm.symm
        rw [hBm, hVV]
        refine hK _ _ (HES.out _ HB2.out) ?_
        clear hK K hBm
        have HO2 : Hid (V2.ownsRow W.heap.size 46 2 (.slice (some ⟨B0, 0, none⟩) 0 0) 0 []) := by rw [← hVV]; exact HO1.out.alloc _
        have hne : Bm ≠ B0 := by
          have h1 := (World.ownsRow.lt HO1.out B0 rfl).2
          rw [← HZM.out] at h1
          omega
        clear hVV
        refine steps_write rfl rfl fun K hK => ?_
        skip
        refine wp_append_src _ _ 67 rfl W.heap.size 46 i0 (.agg #[.string ⟨#[]⟩, .string ⟨#[]⟩]) 2 32 Tryz.underlying67 hi hz0 hz1 hz2 rfl (by decide) (.slice (some ⟨B0, 0, none⟩) 0 0) (0) ([]) rfl HO2.out _ (i) (pcells (ps.take i)) rfl (HLO.out.after HB2.out) (by rw [pcells_length, List.length_take, HM.out, Nat.min_eq_left HIM.out]) (pcells_one _) (by have := HM6.out; have := HIM.out; unfold maxLen; omega) (by have := HM6.out; have := HIM.out; omega) HB2.out.size ?_
        intro vx V3 hown hgrow
        have HB3 : Hid (Below W.heap.size W V3) := HB2.out.grown hgrow HB2.out.size (fun z hz => (World.ownsRow.lt HO2.out z hz).1)
        have HO3 := Lib.hid (own_to hown (k := i) (by have := HIM.out; have := HQ1.out; omega))
        obtain ⟨rp3, rc3, rfl⟩ := own_shape HO3.out
        refine hK _ _ (.inr (HES.out _ HB3.out)) ?_
        clear hK K hown
        simp only [Act.put, List.setIfInBounds_toArray, List.set_cons_zero, List.set_cons_succ]
        have HM3 := Lib.hid (grown_keeps hgrow rfl HM2.out hne)
        clear hgrow hne
        skip
        refine steps_write rfl rfl fun K hK => ?_
        refine wp_append_src _ _ 67 rfl W.heap.size 46 i0 (.agg #[.string ⟨#[]⟩, .string ⟨#[]⟩]) 2 32 Tryz.underlying67 hi hz0 hz1 hz2 rfl (by decide) (.slice rp3 i rc3) (i) ([] ++ pcells (ps.take i)) rfl HO3.out _ (1) ([.string s2, .string t2]) rfl (SrcL.single HM3.out) rfl (by simp [Value.oneCell']) (by have := HM6.out; have := HIM.out; unfold maxLen; omega) (by have := HM6.out; have := HIM.out; omega) HB3.out.size ?_
        intro vx V4 hown hgrow
        have HB4 : Hid (Below W.heap.size W V4) := HB3.out.grown hgrow HB3.out.size (fun z hz => (World.ownsRow.lt HO3.out z hz).1)
        have HO4 := Lib.hid (own_to hown (k := i + 1) (by have := HIM.out; have := HQ1.out; omega))
        obtain ⟨rp4, rc4, rfl⟩ := own_shape HO4.out
        refine hK _ _ (.inr (HES.out _ HB4.out)) ?_
        clear hK K hown
        simp only [Act.put, List.setIfInBounds_toArray, List.set_cons_zero, List.set_cons_succ]
        clear hgrow
        refine steps_write rfl rfl fun K hK => ?_
        refine wp_append_src _ _ 67 rfl W.heap.size 46 i0 (.agg #[.string ⟨#[]⟩, .string ⟨#[]⟩]) 2 32 Tryz.underlying67 hi hz0 hz1 hz2 rfl (by decide) (.slice rp4 (i + 1) rc4) (i + 1) (([] ++ pcells (ps.take i)) ++ [.string s2, .string t2]) rfl HO4.out _ (m - i) (pcells (ps.drop i)) rfl (HHI.out.after HB4.out) (by rw [pcells_length, List.length_drop, HM.out]) (pcells_one _) (by have := HM6.out; have := HIM.out; unfold maxLen; omega) (by have := HM6.out; have := HIM.out; omega) HB4.out.size ?_
        intro vx V5 hown hgrow
        have HB5 : Hid (Below W.heap.size W V5) := HB4.out.grown hgrow HB4.out.size (fun z hz => (World.ownsRow.lt HO4.out z hz).1)
        have HO5 := Lib.hid (own_to hown (k := q) (by have := HIM.out; have := HQ1.out; omega))
        obtain ⟨rp5, rc5, rfl⟩ := own_shape HO5.out
        refine hK _ _ (.inr (HES.out _ HB5.out)) ?_
        clear hK K hown
        simp only [Act.put, List.setIfInBounds_toArray, List.set_cons_zero, List.set_cons_succ]
        clear hgrow
        skip
        iterate 1
          refine steps_read _ rfl rfl (fun w' hS => by skip; go_simp; first | rfl | (rw [if_pos (by omega)])) ?_
          simp only [List.getElem_toArray, List.getElem_cons_succ, List.getElem_cons_zero, Act.put, List.setIfInBounds_toArray, List.set_cons_zero, List.set_cons_succ]
        refine steps_end ?_
        have HEk : Hid (Env w.heap.size w [(A, pObj x1 y1), (w.heap.size, pObj s2 t2)] [] V5) := HES.out _ HB5.out
        have HPk : Hid (PL V5 (.slice rp5 q rc5) (putL ps i (s2, t2))) := by
          have h := HO5.out
          rw [putL_cells ps i (s2, t2)] at h
          have e9 : q = (putL ps i (s2, t2)).length := by rw [putL_len (by rw [HM.out]; exact HIM.out), HM.out]; exact HQ1.out
          rw [e9] at h ⊢
          exact Own.pl (base := W.heap.size) h
        go_wp2
        go_meet
        case rel => exact ⟨rp5, rc5, rfl, HPk, HEk⟩
      · skip
        refine wp_append_src _ _ 67 rfl W.heap.size 46 i0 (.agg #[.string ⟨#[]⟩, .string ⟨#[]⟩]) 2 32 Tryz.underlying67 hi hz0 hz1 hz2 rfl (by decide) (.slice (some ⟨B0, 0, none⟩) 0 0) (0) ([]) rfl HO1.out _ (i) (pcells (ps.take i)) rfl (HLO.out.after HB1.out) (by rw [pcells_length, List.length_take, HM.out, Nat.min_eq_left HIM.out]) (pcells_one _) (by have := HM6.out; have := HIM.out; unfold maxLen; omega) (by have := HM6.out; have := HIM.out; omega) HB1.out.size ?_
        intro vx V2 hown hgrow
        have HB2 : Hid (Below W.heap.size W V2) := HB1.out.grown hgrow HB1.out.size (fun z hz => (World.ownsRow.lt HO1.out z hz).1)
        have HO2 := Lib.hid (own_to hown (k := i) (by have := HIM.out; have := HQ1.out; omega))
        obtain ⟨rp2, rc2, rfl⟩ := own_shape HO2.out
        refine hK _ _ (HES.out _ HB2.out) ?_
        clear hK K hown
        simp only [Act.put, List.setIfInBounds_toArray, List.set_cons_zero, List.set_cons_succ]
        clear hgrow
        refine float_last rfl rfl fun K hK => ?_
        skip
        go_simp
        obtain ⟨Bm, hBm⟩ : ∃ g, V2.heap.size = g := ⟨_, rfl⟩
        obtain ⟨V3, hVV⟩ : ∃ z, V2.alloc (.cells #[.string s2, .string t2] 46) = z := ⟨_, rfl⟩
        have HB3 : Hid (Below W.heap.size W V3) := by rw [← hVV]; exact HB2.out.alloc HB2.out.size _
        have HM3 : Hid (V3.heap[Bm]? = some (.cells #[.string s2, .string t2] 46)) := by rw [← hVV, ← hBm]; exact World.alloc_heap_new _ _
        have HZM : Hid (Bm = V2.heap.size) := hBm.symm
        rw [hBm, hVV]
        refine hK _ _ (HES.out _ HB3.out) ?_
        clear hK K hBm
        have HO3 : Hid (V3.ownsRow W.heap.size 46 2 (.slice rp2 i rc2) i ([] ++ pcells (ps.take i))) := by rw [← hVV]; exact HO2.out.alloc _
        clear hVV
        skip
        refine steps_write rfl rfl fun K hK => ?_
        refine wp_append_src _ _ 67 rfl W.heap.size 46 i0 (.agg #[.string ⟨#[]⟩, .string ⟨#[]⟩]) 2 32 Tryz.underlying67 hi hz0 hz1 hz2 rfl (by decide) (.slice rp2 i rc2) (i) ([] ++ pcells (ps.take i)) rfl HO3.out _ (1) ([.string s2, .string t2]) rfl (SrcL.single HM3.out) rfl (by simp [Value.oneCell']) (by have := HM6.out; have := HIM.out; unfold maxLen; omega) (by have := HM6.out; have := HIM.out; omega) HB3.out.size ?_
        intro vx V4 hown hgrow
        have HB4 : Hid (Below W.heap.size W V4) := HB3.out.grown hgrow HB3.out.size (fun z hz => (World.ownsRow.lt HO3.out z hz).1)
        have HO4 := Lib.hid (own_to hown (k := i + 1) (by have := HIM.out; have := HQ1.out; omega))
        obtain ⟨rp4, rc4, rfl⟩ := own_shape HO4.out
        refine hK _ _ (.inr (HES.out _ HB4.out)) ?_
        clear hK K hown
        simp only [Act.put, List.setIfInBounds_toArray, List.set_cons_zero, List.set_cons_succ]
        clear hgrow
        refine steps_write rfl rfl fun K hK => ?_
        refine wp_append_src _ _ 67 rfl W.heap.size 46 i0 (.agg #[.string ⟨#[]⟩, .string ⟨#[]⟩]) 2 32 Tryz.underlying67 hi hz0 hz1 hz2 rfl (by decide) (.slice rp4 (i + 1) rc4) (i + 1) (([] ++ pcells (ps.take i)) ++ [.string s2, .string t2]) rfl HO4.out _ (m - i) (pcells (ps.drop i)) rfl (HHI.out.after HB4.out) (by rw [pcells_length, List.length_drop, HM.out]) (pcells_one _) (by have := HM6.out; have := HIM.out; unfold maxLen; omega) (by have := HM6.out; have := HIM.out; omega) HB4.out.size ?_
        intro vx V5 hown hgrow
        have HB5 : Hid (Below W.heap.size W V5) := HB4.out.grown hgrow HB4.out.size (fun z hz => (World.ownsRow.lt HO4.out z hz).1)
        have HO5 := Lib.hid (own_to hown (k := q) (by have := HIM.out; have := HQ1.out; omega))
        obtain ⟨rp5, rc5, rfl⟩ := own_shape HO5.out
        refine hK _ _ (.inr (HES.out _ HB5.out)) ?_
        clear hK K hown
        simp only [Act.put, List.setIfInBounds_toArray, List.set_cons_zero, List.set_cons_succ]
        clear hgrow
        skip
        iterate 1
          refine steps_read _ rfl rfl (fun w' hS => by skip; go_simp; first | rfl | (rw [if_pos (by omega)])) ?_
          simp only [List.getElem_toArray, List.getElem_cons_succ, List.getElem_cons_zero, Act.put, List.setIfInBounds_toArray, List.set_cons_zero, List.set_cons_succ]
        refine steps_end ?_
        have HEk : Hid (Env w.heap.size w [(A, pObj x1 y1), (w.heap.size, pObj s2 t2)] [] V5) := HES.out _ HB5.out
        have HPk : Hid (PL V5 (.slice rp5 q rc5) (putL ps i (s2, t2))) := by
          have h := HO5.out
          rw [putL_cells ps i (s2, t2)] at h
          have e9 : q = (putL ps i (s2, t2)).length := by rw [putL_len (by rw [HM.out]; exact HIM.out), HM.out]; exact HQ1.out
          rw [e9] at h ⊢
          exact Own.pl (base := W.heap.size) h
        go_wp2
        go_meet
        case rel => exact ⟨rp5, rc5, rfl, HPk, HEk⟩
  case rest =>
    obtain ⟨pa, ca, rfl, HPA, HE9⟩ := hcut
    obtain ⟨qs, hqs⟩ : ∃ l, putL ps i (s2, t2) = l := ⟨_, rfl⟩
    have HQL : Hid (qs.length = q) := by show _ = _; rw [← hqs, putL_len (by rw [HM.out]; exact HIM.out), HM.out]; exact HQ1.out.symm
    have hsm : smallP 300 (s2, t2) = true := smallP_iff.2 ⟨Nat.le_trans HS8.out.1 (by decide), Nat.le_trans HS8.out.2 (by decide), HOKP.out⟩
    have hmok : MissOk bs ps := by
      rcases HA1.out with ⟨_, _, _, h⟩ | ⟨h, _⟩
      · cases h
      · exact h
    have HQOK : Hid (MissOk bs qs) := by show MissOk bs qs; rw [← hqs]; exact hmok.putL hsm (by rw [HM.out]; exact HM6.out) (by rw [HM.out]; exact HIM.out)
    have HQZ : Hid (LimP qs) := fun x hx => by
      have h1 := List.all_eq_true.1 HQOK.out.1.2 x hx
      obtain ⟨h2, h3, _⟩ := smallP_iff.1 h1
      exact ⟨by omega, by omega⟩
    have HQE : Hid (qs = ps.take i ++ (s2, t2) :: ps.drop i) := hqs.symm
    rw [hqs] at HPA
    clear hqs hsm hmok
    go_wp2_with fail
    refine (dMiss_any (HV.out.after HE9.out.base (Nat.le_refl _)) HLM.out HPA.out HQZ.out (HD.out.below HE9.out.base (Nat.le_refl _)) (HT.out.below HE9.out.base (Nat.le_refl _))).mono ?_
    rintro e w10 ⟨x2, y2, n2, rfl, hA2, hb⟩
    obtain ⟨B, hBe⟩ : ∃ g, w10.heap.size = g := ⟨_, rfl⟩
    obtain ⟨w11, hw11⟩ : ∃ z, w10.alloc (pObj x2 y2) = z := ⟨_, rfl⟩
    have HE11 : Hid (Env w.heap.size w [(B, pObj x2 y2), (A, pObj x1 y1), (w.heap.size, pObj s2 t2)] [] w11) := by rw [← hw11]; exact (HE9.out.step hb).push _ hBe.symm
    have HPB : Hid (PL w11 (.slice pa q ca) qs) := by rw [← hw11]; exact HPA.out.after (hb.alloc hb.size (pObj x2 y2)) (Nat.le_refl _)
    have HA2 := Lib.hid hA2
    clear hb hA2 HE9 HPA
    go_wp2_with fail
    try rw [hBe]
    try rw [hw11]
    clear hBe hw11
    go_loopw [16, 96] (fun vb i wr => ∃ k : Nat, i = .int .i64 k ∧ k ≤ q ∧ Hid (Own wr w11.heap.size vb (qs.reverse.take k)) ∧ Hid (Below w11.heap.size w11 wr)) (fun _ i _ => q - (intOf i).toNat)
    case atStart => exact ⟨0, rfl, Nat.zero_le _, Own.nil _ _, Below.refl _ _⟩
    case round =>
      obtain ⟨k, rfl, hk, HO, HX⟩ := hrel
      have hlen : (qs.reverse.take k).length = k := by rw [List.length_take, List.length_reverse, HQL.out]; omega
      obtain ⟨pk, ck, rfl⟩ : ∃ p c, u16 = .slice p k c := own_shape (own_to HO.out hlen)
      by_cases hlt : k < q
      · obtain ⟨b, off, rfl, hat⟩ := HPB.out.elemR HQL.out (by omega)
        obtain ⟨r, hr⟩ : ∃ r, r = m - k := ⟨_, rfl⟩
        have hq1 := HQ1.out
        have HRL : Hid (r < qs.length) := by show r < qs.length; rw [HQL.out]; omega
        obtain ⟨a0, a1⟩ := hat wr HX.out r HRL.out
        obtain ⟨z, hz⟩ : ∃ z, qs[r]'(HRL.out) = z := ⟨_, rfl⟩
        rw [hz] at a0 a1
        have HTK : Hid (qs.reverse.take (k + 1) = qs.reverse.take k ++ [z]) := by
          show _ = _
          rw [List.take_add_one]
          congr 1
          have h1 : k < qs.reverse.length := by rw [List.length_reverse, HQL.out]; exact hlt
          rw [List.getElem?_eq_getElem h1, List.getElem_reverse, Option.toList_some]
          congr 1
          rw [← hz]
          congr 1
          rw [HQL.out]
          omega
        obtain ⟨s, t⟩ := z
        dsimp only at a0 a1
        have e6 : IntKind.i64.wrap ((q : Int) - 1) = (m : Int) := by have := HM6.out; rw [IntWalk.i64_in _ (by omega)]; omega
        have e7 : IntKind.i64.wrap ((m : Int) - (k : Int)) = (r : Int) := by have := HM6.out; rw [IntWalk.i64_in _ (by omega)]; omega
        have i0' : (0 : Int) ≤ (r : Int) := by omega
        have i1' : (r : Int) < (q : Int) := by omega
        have i2' : (k : Int) < (q : Int) := by omega
        have hownA : (wr.alloc (.cells #[.string s, .string t] 46)).ownsRow w11.heap.size 46 2 (.slice pk k ck) k (pcells (qs.reverse.take k)) := (own_to HO.out hlen).alloc _
        have hnew : SrcL (wr.alloc (.cells #[.string s, .string t] 46)) (.slice (some ⟨wr.heap.size, 0, none⟩) 1 1) 1 [.string s, .string t] := SrcL.single (World.alloc_heap_new wr _)
        have hm1 : k + 1 ≤ maxLen := by have := HM6.out; unfold maxLen; omega
        have hm2 : (k + 1) * 32 ≤ 140737488355328 := by have := HM6.out; omega
        have hm3 : w11.heap.size ≤ (wr.alloc (.cells #[.string s, .string t] 46)).heap.size := by have := HX.out.size; simp; omega
        clear hat hz hr hq1 hlen
        go_wp2_with (at_builtin; go_loud (refine wpList_append_src rfl _ _ 67 rfl w11.heap.size 46 i0 (.agg #[.string ⟨#[]⟩, .string ⟨#[]⟩]) 2 32 Tryz.underlying67 hi hz0 hz1 hz2 rfl (by decide) _ k (pcells (qs.reverse.take k)) rfl hownA _ 1 [.string s, .string t] rfl hnew rfl (by simp [Value.oneCell']) hm1 hm2 hm3 ?_); intro vo W2 hown2 hgrow2)
        have HX2 : Hid (Below w11.heap.size w11 W2) := (HX.out.alloc HX.out.size _).grown hgrow2 hm3 (fun z hz => (World.ownsRow.lt hownA z hz).1)
        have HO2 : Hid (Own W2 w11.heap.size vo (qs.reverse.take (k + 1))) := by
          unfold Own
          rw [HTK.out, pcells_append, List.length_append]
          have e9 : (qs.reverse.take k).length = k := by rw [List.length_take, List.length_reverse, HQL.out]; omega
          rw [e9]
          exact hown2
        clear hown2 hgrow2 hownA hnew hm1 hm2 hm3
        go_roundw
        case rel => exact ⟨k + 1, by go_num, by omega, HO2, HX2⟩
        case measure => simp [intOf]; omega
      · have hkq : k = q := by omega
        subst hkq
        have HBK : Hid (PL wr (.slice pk k ck) qs.reverse) := by
          have h := HO.out.pl
          rwa [List.take_of_length_le (by rw [List.length_reverse, HQL.out]; exact Nat.le_refl _)] at h
        have HEz := Lib.hid (HE11.out.after HX.out (Nat.le_refl _))
        have HRZ : Hid (LimP qs.reverse) := fun x hx => HQZ.out x (List.mem_reverse.1 hx)
        clear hlen HO
        go_wp2_with fail
        refine (dMiss_any (HV.out.after HEz.out.base (Nat.le_refl _)) HLM.out HBK.out HRZ.out (HD.out.below HEz.out.base (Nat.le_refl _)) (HT.out.below HEz.out.base (Nat.le_refl _))).mono ?_
        rintro e w13 ⟨x3, y3, n3, rfl, hA3, hb⟩
        obtain ⟨C, hCe⟩ : ∃ g, w13.heap.size = g := ⟨_, rfl⟩
        obtain ⟨w14, hw14⟩ : ∃ z, w13.alloc (pObj x3 y3) = z := ⟨_, rfl⟩
        have HE14 : Hid (Env w.heap.size w [(C, pObj x3 y3), (B, pObj x2 y2), (A, pObj x1 y1), (w.heap.size, pObj s2 t2)] [] w14) := by rw [← hw14]; exact (HEz.out.step hb).push _ hCe.symm
        have HA3 := Lib.hid hA3
        have hn2 := HA2.out.ok_nums HQOK.out
        have hn3 := hA3.ok_nums HQOK.out.reverse
        clear hb hA3 HEz
        rcases hn2 with rfl | rfl
        rotate_left
        · skip
          go_wp2
          go_ret
          exact ⟨rfl, HE14.out.base⟩
        rcases hn3 with rfl | rfl
        rotate_left
        · skip
          go_wp2
          go_ret
          exact ⟨rfl, HE14.out.base⟩
        have hm0 : 0 ≤ ratP s2 t2 := (isP_of_ok HOKP.out).nn
        obtain ⟨hle, rfl, rfl, hi2, hi1⟩ := miss_more (p := ps.take i) (q := ps.drop i) (m := (s2, t2)) (by rw [List.take_append_drop]; exact HA1.out) (by rw [← HQE.out]; exact HA2.out) (by rw [← HQE.out]; exact HA3.out) hm0
        obtain ⟨g, hg⟩ : ∃ z, sgnR (ratP x2 y2) (ratP x1 y1) = z := ⟨_, rfl⟩
        have hg0 : g ≤ 0 := by rw [← hg]; exact Int.not_lt.1 (sgnR_le hle)
        have CT := Lib.hid (fun V => cmp_to hi2 hi1 hg V)
        have c0 := HE14.out.cell 0 0 (v := .string x2) rfl rfl
        have c1 := HE14.out.cell 0 1 (v := .string y2) rfl rfl
        have d0 := HE14.out.cell 1 0 (v := .string x2) rfl rfl
        have d1 := HE14.out.cell 1 1 (v := .string y2) rfl rfl
        have f0 := HE14.out.cell 2 0 (v := .string x1) rfl rfl
        have f1 := HE14.out.cell 2 1 (v := .string y1) rfl rfl
        clear hm0 hle hi2 hi1 hg
        go_wp2_with fail
        try rw [hCe]
        try rw [hw14]
        clear hCe hw14
        refine (CT.out _).mono ?_
        rintro e w15 ⟨rfl, hb⟩
        have HE15 := Lib.hid (HE14.out.step hb)
        clear hb c0 c1 d0 d1 f0 f1
        have c0 := HE15.out.cell 0 0 (v := .string x2) rfl rfl
        have c1 := HE15.out.cell 0 1 (v := .string y2) rfl rfl
        have d0 := HE15.out.cell 1 0 (v := .string x2) rfl rfl
        have d1 := HE15.out.cell 1 1 (v := .string y2) rfl rfl
        skip
        go_wp2
        go_ret
        exact ⟨rfl, HE15.out.base⟩
end Go.Proofs.YtcncdepjbhnknaaGreatDoor
/- Lists of fractions as arguments. -/
namespace Go.Proofs.YtcncdepjbhnknaaGreatDoor
open Go.ChangeShapes Go.WideShapes Go.ChangeAt Go.RowKit

set_option maxRecDepth 100000 in
theorem open_parts_form {H : Type} {enc : TypeId × Value → H} {W : World} {base b0 : Nat} {sp : Nat → Bool} {held : Bool} {v : Value} {d : DataW H} {p : List MemPlace} (hv : Value.okWide Tryz.prog W .any b0 67 v)
    (h : DataW.Trod enc Tryz.prog W base sp held 67 v d p) : ∃ ps : List PP, PL W v ps ∧ (v = .slice none 0 0 ∨ ∃ ad m c, v = .slice (some ad) m c) := by
  obtain ⟨a0, len, cap, rfl⟩ := okWide_slice Tryz.underlying67 hv
  obtain ⟨fuel, hf⟩ := h
  rcases Deep.open_slice_pairs Tryz.underlying67 Tryz.underlying46 (by kernel_rfl) rfl rfl (by kernel_rfl) (by kernel_rfl) hf with ⟨hcs, _⟩ | ⟨a, len', cap', m, n, V0, V1, D0, D1, P0, P1, hcs, _, hl, hm, hmm, _, hx⟩
  · simp only [Value.cells, List.cons.injEq, Value.slice.injEq, and_true] at hcs
    obtain ⟨rfl, rfl, rfl⟩ := hcs
    exact ⟨[], PL.nil W, .inl rfl⟩
  · simp only [Value.cells, List.cons.injEq, Value.slice.injEq, and_true] at hcs
    obtain ⟨rfl, rfl, rfl⟩ := hcs
    have hlm : len ≤ m := by rw [hmm]; split <;> omega
    have each : ∀ i, i < len → ∃ q : PP, W.cell? (a.add (i * 2)) = some (.string q.1) ∧ W.cell? (a.add (i * 2 + 1)) = some (.string q.2) := by
      intro i hi
      obtain ⟨k0, k1, k2, k3⟩ := hx i (by omega)
      obtain ⟨s, e0, _, _⟩ := DataW.trod_string Tryz.underlying44 k2
      obtain ⟨t, e1, _, _⟩ := DataW.trod_string Tryz.underlying44 k3
      simp only [List.cons.injEq, and_true] at e0 e1
      rw [e0] at k0
      rw [e1] at k1
      exact ⟨(s, t), k0, k1⟩
    obtain ⟨q, hq⟩ := Deep.choose_lt each
    obtain ⟨b, off, spot⟩ := a
    refine ⟨(List.range len).map q, ⟨some ⟨b, off, spot⟩, cap, by simp, by simpa using hl, hm, fun hne => ?_⟩, .inr ⟨_, _, _, rfl⟩⟩
    have h0 : 0 < len := by
      rcases Nat.eq_zero_or_pos len with h | h
      · subst h; exact absurd rfl hne
      · exact h
    have hspot : spot = none := by simpa [Addr.add] using World.cell?_spot (hq 0 h0).1
    subst hspot
    refine ⟨b, off, rfl, World.block_lt_of_cell? _ _ (hq 0 h0).1, fun j hj => ?_⟩
    have hj' : j < len := by simpa using hj
    obtain ⟨c0, c1⟩ := hq j hj'
    have e : ((List.range len).map q)[j] = q j := by simp
    rw [e]
    rw [add_plain] at c0 c1
    exact ⟨c0, c1⟩
set_option maxRecDepth 100000 in
theorem open_parts {H : Type} {enc : TypeId × Value → H} {W : World} {base b0 : Nat} {sp : Nat → Bool} {held : Bool} {v : Value} {d : DataW H} {p : List MemPlace} (hv : Value.okWide Tryz.prog W .any b0 67 v)
    (h : DataW.Trod enc Tryz.prog W base sp held 67 v d p) : ∃ ps : List PP, PL W v ps := by
  obtain ⟨ps, h, _⟩ := open_parts_form hv h
  exact ⟨ps, h⟩
end Go.Proofs.YtcncdepjbhnknaaGreatDoor
/- What form a slice has that came as an argument. -/
namespace Go.Proofs.YtcncdepjbhnknaaGreatDoor
open Go.ChangeShapes Go.WideShapes Go.ChangeAt Go.RowKit

set_option maxRecDepth 100000 in
theorem sight_form {H : Type} {enc : TypeId × Value → H} {W : World} {base b0 : Nat} {sp : Nat → Bool} {held : Bool} {v : Value} {d : DataW H} {p : List MemPlace} (hv : Value.okWide Tryz.prog W .any b0 22 v)
    (h : DataW.Trod enc Tryz.prog W base sp held 22 v d p) : PForm v := by
  obtain ⟨a0, len, cap, rfl⟩ := okWide_slice Tryz.underlying22 hv
  obtain ⟨fuel, hf⟩ := h
  rcases Deep.open_slice Tryz.underlying22 hf with ⟨hcs, _⟩ | ⟨a, len', cap', m, n, D, Pl, hcs, _⟩
  · simp only [Value.cells, List.cons.injEq, Value.slice.injEq, and_true] at hcs
    obtain ⟨rfl, rfl, rfl⟩ := hcs
    exact .inl rfl
  · simp only [Value.cells, List.cons.injEq, Value.slice.injEq, and_true] at hcs
    obtain ⟨rfl, rfl, rfl⟩ := hcs
    exact .inr ⟨_, _, _, rfl⟩
set_option maxRecDepth 100000 in
theorem parts_form {H : Type} {enc : TypeId × Value → H} {W : World} {base b0 : Nat} {sp : Nat → Bool} {held : Bool} {v : Value} {d : DataW H} {p : List MemPlace} (hv : Value.okWide Tryz.prog W .any b0 67 v)
    (h : DataW.Trod enc Tryz.prog W base sp held 67 v d p) : PForm v := by
  obtain ⟨a0, len, cap, rfl⟩ := okWide_slice Tryz.underlying67 hv
  obtain ⟨fuel, hf⟩ := h
  rcases Deep.open_slice Tryz.underlying67 hf with ⟨hcs, _⟩ | ⟨a, len', cap', m, n, D, Pl, hcs, _⟩
  · simp only [Value.cells, List.cons.injEq, Value.slice.injEq, and_true] at hcs
    obtain ⟨rfl, rfl, rfl⟩ := hcs
    exact .inl rfl
  · simp only [Value.cells, List.cons.injEq, Value.slice.injEq, and_true] at hcs
    obtain ⟨rfl, rfl, rfl⟩ := hcs
    exact .inr ⟨_, _, _, rfl⟩
end Go.Proofs.YtcncdepjbhnknaaGreatDoor
/- DetectRepeats: for every list of bends, every list of fractions, every fraction of strings and every uint8 the law returns true and each argument reads behind the call as it read before: the row without its closed facts. Conditions: the package-level variables that the row lists start as the text of the program lays them (the tie is given, over the pruned copy); the row is unfollowed and recurses. -/
namespace Go.Proofs.YtcncdepjbhnknaaGreatDoor
open Go.ChangeShapes Go.WideShapes Go.ChangeAt Go.RowKit

set_option maxRecDepth 100000 in
theorem repeats_lifted (os : Os) (started : os.Started) (H : Type) (enc : TypeId × Value → H) :
    ReturnsInHanded {} Tryz.checked os 12 .any (fun w args => (Rows.detectRepeatsSpec.pre enc Tryz.prog Tryz.f12 Rows.detectRepeatsRow.domain false w args ∧ laidMetH Tryz.prog laid9 w) ∧ sizedMet enc Tryz.prog Tryz.f12 (OpenSpec.ofChange Rows.detectRepeatsSpec) false w args)
      (Rows.detectRepeatsSpec.post enc Tryz.prog Tryz.f12 false true false false) := by
  refine returnsInHanded_of_change_and (C := Tryz.checked) (X := fun w _ => laidMetH Tryz.prog laid9 w) (fun _ _ _ hh h => h.of_heap hh) own_seat started (by kernel_rfl) Tryz.func12
    (ChangeSpec.witness_shaped (enc := enc) (C := Tryz.checked) (os := os) (X := fun w _ => laidMetH Tryz.prog laid9 w) false (World.laidAll Tryz.prog os laid9) #[.slice none 0 0, .slice none 0 0, .agg #[.string ⟨#[]⟩, .string ⟨#[]⟩], .int .u8 0] 8 (World.laidAll_os _ _ _)
      (World.shaped_of_ZipB (by kernel_rfl) (by kernel_rfl)) (by kernel_rfl) (by kernel_rfl) (by kernel_rfl) (met9 os _)) ?_
  intro W base args ds gs before hval0 hW hc _ hL _
  have hval : ∀ (j : Nat) t v, Tryz.f12.params[j]? = some t → args[j]? = some v → Value.okWide Tryz.prog W .any base t v := hval0
  have hW' := hW
  obtain ⟨p, q, hA0, hV, rfl, _, _⟩ := hW
  have hA : DataW.TrodAll enc Tryz.prog W 0 (fun _ => true) true Tryz.f12.params.toList args.toList ds p := hA0
  rw [Tryz.params12] at hA hval
  obtain ⟨v0, v1, v2, v3, d0, d1, d2, d3, p0, p1, p2, p3, rfl, rfl, rfl, h0, h1, h2, h3⟩ := trodAll_four hA
  obtain ⟨rfl, rfl⟩ := trodVars_none hV
  obtain ⟨bs0, hb0⟩ := open_bends (hval 0 _ v0 rfl rfl) h0
  obtain ⟨ps1, hps1⟩ := open_parts (hval 1 _ v1 rfl rfl) h1
  obtain ⟨s2, t2, rfl, rfl⟩ := open_part (hval 2 _ v2 rfl rfl) h2
  obtain ⟨a3, rfl, rfl, rfl, wa3⟩ := open_int Tryz.underlying5 (hval 3 _ v3 rfl rfl) h3
  have ha3 : 0 ≤ a3 ∧ a3 ≤ 255 := by simpa [Lit.wf, IntKind.min, IntKind.max, IntKind.signed, IntKind.bits] using wa3
  obtain ⟨a3, rfl⟩ : ∃ n : Nat, a3 = n := ⟨a3.toNat, by omega⟩
  have hf1 := parts_form (hval 1 _ v1 rfl rfl) h1
  clear hA0 hval0
  simp only [List.append_nil] at hW'
  refine (repeats_law hb0 hps1 hf1 s2 t2 a3 (by omega) (detV_of_laid9 hL) (tabs_of_laid9 hL)).mono fun e W' ⟨he, bel⟩ => ?_
  subst he
  have nx : ∀ x ∈ ([] : List MemPlace), x.block < W.heap.size := fun _ h => by cases h
  have hlt0 : ∀ x ∈ p0, x.block < W.heap.size := fun x hx => by first | (have := hW'.lt x hx; simpa using this) | (have := hW'.lt x (by simp [hx]); simpa using this)
  have hlt1 : ∀ x ∈ p1, x.block < W.heap.size := fun x hx => by first | (have := hW'.lt x hx; simpa using this) | (have := hW'.lt x (by simp [hx]); simpa using this)
  refine ⟨_, rfl, _, _, _, [], p0 ++ p1, [], hW', ?_, ?_, ?_, bel.frame _, fun h => by cases h⟩
  · exact trodAll_mk1 (shut_bool Tryz.underlying4 _)
  · have h9 := trodAll_mk4 (Below.trod out_seat (by kernel_rfl) (of_decide_eq_true (by kernel_rfl)) h0 bel hlt0) (Below.trod out_seat (by kernel_rfl) (of_decide_eq_true (by kernel_rfl)) h1 bel hlt1) (Below.trod out_seat (by kernel_rfl) (of_decide_eq_true (by kernel_rfl)) h2 bel nx) (Below.trod out_seat (by kernel_rfl) (of_decide_eq_true (by kernel_rfl)) h3 bel nx)
    first | exact h9 | (simp only [List.append_nil, List.nil_append] at h9; exact h9) | (simpa using h9)
  · rfl
end Go.Proofs.YtcncdepjbhnknaaGreatDoor
