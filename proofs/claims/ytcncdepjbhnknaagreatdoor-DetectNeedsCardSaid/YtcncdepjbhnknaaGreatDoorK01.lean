/- The parts LawNeeds, LawNeedsLift of a proof, put together by program (merge6.py). -/
import Derived.Test.YtcncdepjbhnknaaGreatDoorH21
import Derived.Test.YtcncdepjbhnknaaGreatDoorJ01
import Derived.Test.YtcncdepjbhnknaaGreatDoorJ06
import Derived.Test.YtcncdepjbhnknaaGreatDoorH22
set_option linter.unusedVariables false
set_option linter.unusedSimpArgs false
/- DetectNeeds' walk. -/
namespace Go.Proofs.YtcncdepjbhnknaaGreatDoor
open Go.RowKit Go.Shelf
attribute [local go_sem ↓] Go.wp_at_zero Go.wp_at_succ
abbrev SJ (q : Nat × ByteArray × ByteArray) (w' : World) : Prop := w'.cell? ⟨q.1, 0, none⟩ = some (.string q.2.1) ∧ w'.cell? ⟨q.1, 1, none⟩ = some (.string q.2.2)
/-- How long the fraction of a need is. -/
theorem need_sizek {bs : List BB} {p c : Rat} {k : Nat} (h : CurveP bs) (hp0 : 0 ≤ p) (hz : Sz k p) (hn : NeedR bs.length (cR bs) (hR bs) p c) : Sz (k + 109) c ∧ 0 ≤ c := by
  rcases hn with ⟨_, rfl⟩ | ⟨i, hi, h1, h2, rfl⟩
  · exact ⟨(show Sz 1 (0 : Rat) from ⟨by decide +kernel, by decide +kernel⟩).mono (by omega), Rat.le_refl⟩
  · obtain ⟨a1, a2, a3, a4, a5, a6⟩ := slp_size h.conc' h.sizes.1 h.sizes.2 hi
    have hn := h.conc'.h_nn (i := i) (by omega)
    have cn := h.conc'.c_nn (i := i) (by omega)
    have d0 : 0 < hR bs (i + 1) - hR bs i := by grind
    have w0 : 0 ≤ p - hR bs i := by grind
    have wz := Sz.sub hp0 hn (Rat.le_of_lt h1) hz (h.sizes.2 i (by omega))
    have t0 := div_nonneg (Rat.le_of_lt a3) (Rat.le_of_lt d0)
    have tz := Sz.div (Rat.le_of_lt a3) d0 a2 a1
    have m0 := Rat.mul_nonneg t0 w0
    have mz := Sz.mul t0 w0 tz wz
    exact ⟨(Sz.add cn m0 (h.sizes.1 i (by omega)) mz).mono (by omega), by grind⟩
theorem of_to {a b : Nat} (hb : 0 < b) (ha1 : a < 1000) (hb1 : b < 1000) {s t : ByteArray} (h : IsP (mkRat (a : Nat) b) s t) (w : World) (hT : Tabs w) :
    Calls Tryz.prog 30 #[.int .i64 a, .int .i64 b] w (ValPost (pV s t) w) := by
  refine (lawOf a b hb ha1 hb1 w hT).mono ?_
  rintro e w' ⟨x, y, rfl, h2, hb⟩
  obtain ⟨e1, e2⟩ := isP_one' h2 h rfl
  rw [e1, e2]
  exact ⟨rfl, hb⟩
/-- What the last test of a curve without an answer reads. -/
abbrev SNd (g b o : Nat) (s t u v : ByteArray) (w' : World) : Prop := (w'.cell? ⟨g, 0, none⟩ = some (.string s) ∧ w'.cell? ⟨g, 1, none⟩ = some (.string t)) ∧ w'.cell? ⟨b, o + 2, none⟩ = some (.string u) ∧ w'.cell? ⟨b, o + 3, none⟩ = some (.string v)
set_option maxRecDepth 100000 in
set_option maxHeartbeats 8000000 in
theorem needs_law {v : Value} {bs : List BB} {w : World} (hv : BL w v bs) (s1 t1 : ByteArray) (part : Nat) (hpart : part ≤ 255) (hD : DetV w) (hT : Tabs w) :
    Calls Tryz.prog 6 #[v, .agg #[.string s1, .string t1], .int .u8 part] w (BoolPost w true) := by
  obtain ⟨n, hn⟩ : ∃ n, bs.length = n := ⟨_, rfl⟩
  obtain ⟨p, c, rfl⟩ : ∃ p c, v = .slice p n c := by obtain ⟨p, c, h, _⟩ := id hv; exact ⟨_, _, by rw [← hn]; exact h⟩
  obtain ⟨_, hcc, hnc⟩ := hv.len
  have HN := Lib.hid hn
  have HV := Lib.hid hv
  have HT := Lib.hid hT
  have HD := Lib.hid hD
  have HPT := Lib.hid hpart
  clear hv hn hT hD hpart
  go_enter Tryz.func6, Tryz.ntmps6
  go_wp2_with fail
  obtain ⟨w0, hw0⟩ : ∃ w0, w.alloc (pObj s1 t1) = w0 := ⟨_, rfl⟩
  rw [hw0]
  have HB0 : Hid (Below w.heap.size w w0) := by rw [← hw0]; exact (Below.refl _ w).alloc (Nat.le_refl _) _
  have HA0 : Hid (Ats [(w.heap.size, s1, t1)] w0) := by rw [← hw0]; exact (Ats.nil w).push s1 t1
  clear hw0
  skip
  refine (alive_any _ (HD.out.below HB0.out (Nat.le_refl _)) (HT.out.below HB0.out (Nat.le_refl _))).mono ?_
  rintro e w1 ⟨rfl, hb⟩
  have HB1 := Lib.hid (HB0.out.trans (hb.mono HB0.out.size))
  have HA1 := Lib.hid (HA0.out.after hb (Nat.le_refl _))
  clear hb
  go_wp2_with fail
  refine (great_any (HV.out.after HB1.out (Nat.le_refl _))).mono ?_
  rintro e w2 ⟨r, rfl, hG, hb⟩
  have HB2 := Lib.hid (HB1.out.trans (hb.mono HB1.out.size))
  have HA2 := Lib.hid (HA1.out.after hb (Nat.le_refl _))
  clear hb
  cases r
  · have HGR := Lib.hid (hG rfl)
    have HLM := Lib.hid (few_lim HGR.out.2)
    clear hG
    skip
    have m0 := HA2.out.c0 0 rfl
    have m1 := HA2.out.c1 0 rfl
    go_wp2_with fail
    clear m0 m1
    have hal := (Below.refl w2.heap.size w2).alloc (Nat.le_refl _) (.cells #[.string s1, .string t1] 46)
    have HB3 := Lib.hid (HB2.out.trans (hal.mono HB2.out.size))
    have HA3 := Lib.hid (HA2.out.after hal (Nat.le_refl _))
    clear hal
    refine (short_any 40 (by decide) (pl_single _ s1 t1)).mono ?_
    rintro e w4 ⟨rfl, hb⟩
    have HB4 := Lib.hid (HB3.out.trans (hb.mono HB3.out.size))
    have HA4 := Lib.hid (HA3.out.after hb (Nat.le_refl _))
    clear hb
    cases hsh : shortB 40 [(s1, t1)]
    · clear hsh
      skip
      go_wp2
      go_ret
      exact ⟨rfl, HB4.out⟩
    · obtain ⟨l1, l2⟩ := shortB_iff.1 hsh (s1, t1) (by simp)
      dsimp only at l1 l2
      have HLL : Hid (s1.size ≤ 40 ∧ t1.size ≤ 40) := ⟨l1, l2⟩
      clear hsh l1 l2
      skip
      have m0 := HA4.out.c0 0 rfl
      have m1 := HA4.out.c1 0 rfl
      go_wp2_with fail
      clear m0 m1
      refine (dNeed_any (HV.out.after HB4.out (Nat.le_refl _)) HLM.out (Nat.le_trans HLL.out.1 (by decide)) (Nat.le_trans HLL.out.2 (by decide)) (HD.out.below HB4.out (Nat.le_refl _)) (HT.out.below HB4.out (Nat.le_refl _))).mono ?_
      rintro e w5 ⟨x, y, m, rfl, hA, hb⟩
      have HB5 : Hid (Below w.heap.size w (w5.alloc (pObj x y))) := (HB4.out.trans (hb.mono HB4.out.size)).alloc (Nat.le_trans HB4.out.size hb.size) _
      have HA5 := Lib.hid ((HA4.out.after hb (Nat.le_refl _)).push x y)
      clear hb
      rcases hA with ⟨_, rfl, rfl, rfl⟩ | ⟨⟨hC, hsm⟩, hlt, rfl, rfl, rfl⟩ | ⟨⟨hC, hsm⟩, hle, rfl, cc, hN, hcc2⟩
      · obtain ⟨W, hWW⟩ : ∃ z0, z0 = w5.alloc (pObj ⟨#[]⟩ ⟨#[]⟩) := ⟨_, rfl⟩
        rw [← hWW] at HB5 HA5
        go_wp2_with fail
        rw [← hWW]
        refine tsteps_plain [(true, 0), (true, 1), (true, 2), (true, 3), (true, 4), (true, 5), (true, 6), (true, 7), (true, 8), (true, 9), (true, 10), (true, 11), (true, 12), (true, 13), (true, 14), (true, 15), (false, 16), (true, 17), (true, 18), (true, 19), (true, 20), (true, 21)] (fun _ => True) (fun _ => false)
          (by kernel_rfl) (by kernel_rfl) (by kernel_rfl) (fun _ _ => rfl) (fun _ _ o _ _ h => by cases o <;> exact h) trivial ?_
        iterate 5
          refine steps_read _ rfl rfl (fun w' hS => by go_simp; rfl) ?_
          simp only [List.getElem_toArray, List.getElem_cons_succ, List.getElem_cons_zero, Act.put, List.setIfInBounds_toArray, List.set_cons_zero, List.set_cons_succ]
        iterate 11
          refine steps_skip rfl rfl ?_
          simp only [List.getElem_toArray, List.getElem_cons_succ, List.getElem_cons_zero, Act.put, List.setIfInBounds_toArray, List.set_cons_zero, List.set_cons_succ]
        refine steps_skipw rfl rfl trivial ?_
        simp only [List.getElem_toArray, List.getElem_cons_succ, List.getElem_cons_zero, Act.put, List.setIfInBounds_toArray, List.set_cons_zero, List.set_cons_succ]
        iterate 2
          refine steps_skip rfl rfl ?_
          simp only [List.getElem_toArray, List.getElem_cons_succ, List.getElem_cons_zero, Act.put, List.setIfInBounds_toArray, List.set_cons_zero, List.set_cons_succ]
        iterate 3
          refine steps_read _ rfl rfl (fun w' hS => by go_simp; rfl) ?_
          simp only [List.getElem_toArray, List.getElem_cons_succ, List.getElem_cons_zero, Act.put, List.setIfInBounds_toArray, List.set_cons_zero, List.set_cons_succ]
        refine steps_end ?_
        go_wp2
        go_ret
        exact ⟨rfl, HB5.out.drew⟩
      · have ia := (isP_small hsm).1
        have hl2 := hC.len
        rw [HN.out] at hl2
        obtain ⟨b, off, rfl, hbl, hat⟩ := HV.out.at HN.out (by omega)
        obtain ⟨r, rfl⟩ : ∃ r, n = r + 1 := ⟨n - 1, by omega⟩
        have ih := (hC.isH (i := r) (by rw [HN.out]; omega)).1
        have e9 : bs.length - 1 = r := by rw [HN.out]; omega
        rw [e9] at hlt
        obtain ⟨q, hq⟩ : ∃ q, bAt bs r = q := ⟨_, rfl⟩
        rw [hq] at ih
        have HATl := Lib.hid (fun V (hV : Below w.heap.size w V) => hat V hV r (by omega))
        rw [hq] at HATl
        obtain ⟨⟨us, ut⟩, uu, uv⟩ := q
        dsimp only at ih HATl
        have hgt : (0 : Int) < sgnR (ratP s1 t1) (hR bs r) := sgnR_gt (by grind)
        obtain ⟨g1, hg1⟩ : ∃ z, sgnR (ratP s1 t1) (hR bs r) = z := ⟨_, rfl⟩
        rw [hg1] at hgt
        have IA := Lib.hid ia
        have IH := Lib.hid ih
        have HG1 := Lib.hid hg1
        have e1 : IntKind.i64.wrap (r : Int) = (r : Int) := IntWalk.i64_in _ (by omega)
        obtain ⟨W, hWW⟩ : ∃ z0, z0 = w5.alloc (pObj ⟨#[]⟩ ⟨#[]⟩) := ⟨_, rfl⟩
        rw [← hWW] at HB5 HA5
        have HS : Hid (∀ V, Below W.heap.size W V → SNd w.heap.size b (off + r * 4) s1 t1 uu uv V) := fun V hV => by
          have h := HA5.out.after hV (Nat.le_refl _)
          have hb := HATl.out V (HB5.out.trans (hV.mono HB5.out.size))
          exact ⟨⟨h.c0 1 rfl, h.c1 1 rfl⟩, hb.2.2.1, hb.2.2.2⟩
        have HW0 : Hid (Below W.heap.size W W.drew) := (Below.refl _ W).drew
        clear ia ih hg1 hq hat hlt e9
        go_wp2_with fail
        subst hWW
        refine tsteps_plain [(true, 0), (true, 1), (true, 2), (true, 3), (true, 4), (true, 5), (true, 6), (true, 7), (true, 8), (true, 9), (true, 10), (true, 11), (true, 12), (true, 13), (true, 14), (true, 15), (false, 16), (true, 17), (true, 18), (true, 19), (true, 20), (true, 21)] (SNd w.heap.size b (off + r * 4) s1 t1 uu uv) (fun _ => false)
          (by kernel_rfl) (by kernel_rfl) (by kernel_rfl) (fun _ _ => rfl) (fun _ _ o _ _ h => by cases o <;> exact h) (HS.out _ HW0.out) ?_
        skip
        iterate 16
          refine steps_read _ rfl rfl (fun w' hS => by obtain ⟨⟨a0, a1⟩, b0, b1⟩ := hS; go_simp; first | rfl | (rw [if_pos (by omega)])) ?_
          simp only [List.getElem_toArray, List.getElem_cons_succ, List.getElem_cons_zero, Act.put, List.setIfInBounds_toArray, List.set_cons_zero, List.set_cons_succ]
        refine steps_write rfl rfl fun K hK => ?_
        go_simp
        go_at_call 31
        refine (cmp_to IA.out IH.out HG1.out _).mono ?_
        rintro e w7 ⟨rfl, hb⟩
        have HW7 := Lib.hid (HW0.out.trans (hb.mono HW0.out.size))
        refine hK _ _ (.inr (HS.out _ HW7.out)) ?_
        clear hK K hb
        skip
        iterate 5
          refine steps_read _ rfl rfl (fun w' hS => by obtain ⟨⟨a0, a1⟩, b0, b1⟩ := hS; go_simp; first | rfl | (rw [if_pos (by omega)])) ?_
          simp only [List.getElem_toArray, List.getElem_cons_succ, List.getElem_cons_zero, Act.put, List.setIfInBounds_toArray, List.set_cons_zero, List.set_cons_succ]
        refine steps_end ?_
        go_wp2
        go_ret
        exact ⟨rfl, HB5.out.trans (HW7.out.mono HB5.out.size)⟩
      · have ia := (isP_small hsm).1
        dsimp only at ia
        obtain ⟨q, hq⟩ : ∃ q, ratP s1 t1 = q := ⟨_, rfl⟩
        rw [hq] at ia hle hN
        have za := ia.sz HLL.out.1 HLL.out.2
        obtain ⟨zc, nc⟩ := need_sizek hC ia.nn za hN
        obtain ⟨r, hr⟩ := chanceR_exists hC cc
        have hrq := hN.chance hC.conc' hr
        subst hrq
        have np : 0 ≤ mkRat (part : Nat) 256 := mkRat_nonneg _ _
        have zp : Sz 3 (mkRat (part : Nat) 256) := Sz.mk (by decide) (by have := HPT.out; omega) (by decide)
        obtain ⟨a1, a2, ip⟩ := sz_isP' np zp (by decide) (by decide)
        have nl := Rat.mul_nonneg nc np
        have zl := Sz.mul nc np zc zp
        obtain ⟨b1, b2, il⟩ := sz_isP' nl zl (by decide) (by decide)
        obtain ⟨h, h1, h2, rh, ih, zh, nh, uh⟩ := chance_ex hC nl zl (by decide)
        have Ia := Lib.hid ia
        have Ic := Lib.hid hcc2
        have Ip := Lib.hid ip
        have Il := Lib.hid il
        have Ih := Lib.hid ih
        have HC := Lib.hid hC
        have RC : Hid ((Sz 300 cc ∧ Sz 300 (cc * mkRat (part : Nat) 256)) ∧ ChanceR bs.length (cR bs) (hR bs) cc r ∧ ChanceR bs.length (cR bs) (hR bs) (cc * mkRat (part : Nat) 256) h) := ⟨⟨zc.mono (by decide), zl.mono (by decide)⟩, hr, rh⟩
        have HLS : Hid (cc ≠ 0 → h < r) := fun h0 => by
          refine hN.less hC.conc' ?_ h0 rh
          have h1 : mkRat (part : Nat) 256 < 1 := by
            have h5 := HPT.out
            have h6 : ∀ k : Nat, k ≤ 255 → mkRat (k : Nat) 256 < 1 := by decide +kernel
            exact h6 part h5
          have h2 : 0 < cc := by grind
          have h3 := Rat.mul_pos h2 (b := 1 - mkRat (part : Nat) 256) (by grind)
          grind
        clear ia hcc2 ip il ih hC hsm hle hN za zc nc np zp nl zl zh nh uh hr rh hq
        skip
        have m0 := HA5.out.c0 0 rfl
        have m1 := HA5.out.c1 0 rfl
        go_wp2_with fail
        clear m0 m1
        skip
        refine (chance_to (HV.out.after HB5.out (Nat.le_refl _)) HC.out HLM.out Ic.out RC.out.1.1 RC.out.2.1 Ia.out (HD.out.below HB5.out (Nat.le_refl _)) (HT.out.below HB5.out (Nat.le_refl _))).mono ?_
        rintro e w6 ⟨rfl, hb⟩
        have HB6 : Hid (Below w.heap.size w (w6.alloc (pObj s1 t1))) := (HB5.out.trans (hb.mono HB5.out.size)).alloc (Nat.le_trans HB5.out.size hb.size) _
        have HA6 := Lib.hid ((HA5.out.after hb (Nat.le_refl _)).push s1 t1)
        clear hb
        skip
        obtain ⟨W, hWW⟩ : ∃ z0, z0 = w6.alloc (pObj s1 t1) := ⟨_, rfl⟩
        have HSJ : Hid (∀ V, Below W.heap.size W V → SJ (w5.heap.size, x, y) V) := fun V hV => by
          subst hWW
          have h := HA6.out.after hV (Nat.le_refl _)
          exact ⟨h.c0 1 rfl, h.c1 1 rfl⟩
        have HTJ : Hid (∀ V, Below W.heap.size W V → Tabs V) := fun V hV => by
          subst hWW
          exact HT.out.below (HB6.out.trans (hV.mono HB6.out.size)) (Nat.le_refl _)
        have HR0 : Hid (Below W.heap.size W W.drew) := (Below.refl _ W).drew
        go_wp2_with fail
        rw [← hWW]
        apply region_join (R := (LaidP W b1 b2))
        case h =>
          refine float_plain 8 [(false, 9), (false, 10)] [(true, 0), (true, 1), (true, 2), (false, 3), (false, 4), (true, 5), (true, 6), (true, 7)] (SJ (w5.heap.size, x, y)) (by kernel_rfl) (by kernel_rfl) (fun _ _ _ _ _ h => by cases h.1) (HSJ.out _ HR0.out) ?_
          obtain ⟨V0, hV0⟩ : ∃ z0, W.drew = z0 := ⟨_, rfl⟩
          rw [hV0] at HR0 ⊢
          clear hV0
          skip
          iterate 2
            refine float_read _ rfl rfl (fun w' hS => by obtain ⟨a0, a1⟩ := hS; go_simp; rfl) ?_
            simp only [List.getElem_toArray, List.getElem_cons_succ, List.getElem_cons_zero, Act.put, List.setIfInBounds_toArray, List.set_cons_zero, List.set_cons_succ]
          refine float_read (.int .i64 (part : Int)) rfl rfl (fun w' hS => by go_simp; exact IntWalk.i64_in _ (by have := HPT.out; omega)) ?_
          simp only [List.getElem_toArray, List.getElem_cons_succ, List.getElem_cons_zero, Act.put, List.setIfInBounds_toArray, List.set_cons_zero, List.set_cons_succ]
          refine float_write rfl rfl rfl rfl (fun K hK => ?_) (fun K hK => ?_)
          · skip
            go_simp
            obtain ⟨G, hG⟩ : ∃ G, V0.heap.size = G := ⟨_, rfl⟩
            obtain ⟨V1, hVV⟩ : ∃ z0, V0.alloc (pObj ⟨#[]⟩ ⟨#[]⟩) = z0 := ⟨_, rfl⟩
            have hal : Below V0.heap.size V0 V1 := by rw [← hVV]; exact (Below.refl _ _).alloc (Nat.le_refl _) _
            have HR1 : Hid (Below W.heap.size W V1) := HR0.out.trans (hal.mono HR0.out.size)
            have HE1 : Hid (V1.heap[G]? = some (pObj ⟨#[]⟩ ⟨#[]⟩)) := by rw [← hVV, ← hG]; exact World.alloc_heap_new _ _
            have hWG : W.heap.size ≤ G := by rw [← hG]; exact HR0.out.size
            rw [hG, hVV]
            refine hK _ _ (HSJ.out _ HR1.out) ?_
            clear hK K hal hVV hG
            refine steps_write rfl rfl fun K hK => ?_
            go_simp
            go_at_call 30
            refine (of_to (a := part) (b := 256) (by decide) (by have := HPT.out; omega) (by decide) Ip.out _ (HTJ.out _ HR1.out)).mono ?_
            rintro e V2 ⟨rfl, hb⟩
            have HR2 : Hid (Below W.heap.size W V2) := HR1.out.trans (hb.mono HR1.out.size)
            have HE2 : Hid (V2.heap[G]? = some (pObj ⟨#[]⟩ ⟨#[]⟩)) := (hb.block G (Array.getElem?_eq_some_iff.1 HE1.out).1).trans HE1.out
            refine hK _ _ (.inr (HSJ.out _ HR2.out)) ?_
            clear hK K hb
            refine steps_write rfl rfl fun K hK => ?_
            go_simp
            go_at_call 29
            refine (mul_to Ic.out Ip.out Il.out rfl _ (HTJ.out _ HR2.out)).mono ?_
            rintro e V3 ⟨rfl, hb⟩
            have HR3 : Hid (Below W.heap.size W V3) := HR2.out.trans (hb.mono HR2.out.size)
            have HE3 : Hid (V3.heap[G]? = some (pObj ⟨#[]⟩ ⟨#[]⟩)) := (hb.block G (Array.getElem?_eq_some_iff.1 HE2.out).1).trans HE2.out
            refine hK _ _ (.inr (HSJ.out _ HR3.out)) ?_
            clear hK K hb
            skip
            iterate 3
              refine steps_read _ rfl rfl (fun w' hS => by go_simp; rfl) ?_
              simp only [List.getElem_toArray, List.getElem_cons_succ, List.getElem_cons_zero, Act.put, List.setIfInBounds_toArray, List.set_cons_zero, List.set_cons_succ]
            have r0 := known_cell HE3.out 0 rfl
            have r1 := known_cell HE3.out 1 rfl
            have f0 := known_frozen HE3.out 0
            have f1 := known_frozen HE3.out 1
            refine steps_write rfl rfl fun K hK => ?_
            go_simp
            have hq := two_put HE3.out (.string b1) (.string b2)
            have HQB : Hid (Below W.heap.size W ((V3.setCell ⟨G, 0, none⟩ (.string b1)).setCell ⟨G, 1, none⟩ (.string b2))) := two_put_below HR3.out hWG (.string b1) (.string b2)
            refine hK _ _ (.inr (HSJ.out _ HQB.out)) ?_
            clear hK K
            refine steps_write rfl rfl fun K hK => ?_
            go_simp
            refine hK _ _ (.inr (HSJ.out _ HQB.out)) ?_
            clear hK K
            refine steps_end ?_
            exact ⟨rfl, G, rfl, HQB.out, hq, hWG⟩
          · skip
            go_simp
            go_at_call 30
            refine (of_to (a := part) (b := 256) (by decide) (by have := HPT.out; omega) (by decide) Ip.out _ (HTJ.out _ HR0.out)).mono ?_
            rintro e V1 ⟨rfl, hb⟩
            have HR1 : Hid (Below W.heap.size W V1) := HR0.out.trans (hb.mono HR0.out.size)
            refine hK _ _ (HSJ.out _ HR1.out) ?_
            clear hK K hb
            refine float_write rfl rfl rfl rfl (fun K hK => ?_) (fun K hK => ?_)
            · skip
              go_simp
              obtain ⟨G, hG⟩ : ∃ G, V1.heap.size = G := ⟨_, rfl⟩
              obtain ⟨V2, hVV⟩ : ∃ z0, V1.alloc (pObj ⟨#[]⟩ ⟨#[]⟩) = z0 := ⟨_, rfl⟩
              have hal : Below V1.heap.size V1 V2 := by rw [← hVV]; exact (Below.refl _ _).alloc (Nat.le_refl _) _
              have HR2 : Hid (Below W.heap.size W V2) := HR1.out.trans (hal.mono HR1.out.size)
              have HE2 : Hid (V2.heap[G]? = some (pObj ⟨#[]⟩ ⟨#[]⟩)) := by rw [← hVV, ← hG]; exact World.alloc_heap_new _ _
              have hWG : W.heap.size ≤ G := by rw [← hG]; exact HR1.out.size
              rw [hG, hVV]
              refine hK _ _ (HSJ.out _ HR2.out) ?_
              clear hK K hal hVV hG
              refine steps_write rfl rfl fun K hK => ?_
              go_simp
              go_at_call 29
              refine (mul_to Ic.out Ip.out Il.out rfl _ (HTJ.out _ HR2.out)).mono ?_
              rintro e V3 ⟨rfl, hb⟩
              have HR3 : Hid (Below W.heap.size W V3) := HR2.out.trans (hb.mono HR2.out.size)
              have HE3 : Hid (V3.heap[G]? = some (pObj ⟨#[]⟩ ⟨#[]⟩)) := (hb.block G (Array.getElem?_eq_some_iff.1 HE2.out).1).trans HE2.out
              refine hK _ _ (.inr (HSJ.out _ HR3.out)) ?_
              clear hK K hb
              skip
              iterate 3
                refine steps_read _ rfl rfl (fun w' hS => by go_simp; rfl) ?_
                simp only [List.getElem_toArray, List.getElem_cons_succ, List.getElem_cons_zero, Act.put, List.setIfInBounds_toArray, List.set_cons_zero, List.set_cons_succ]
              have r0 := known_cell HE3.out 0 rfl
              have r1 := known_cell HE3.out 1 rfl
              have f0 := known_frozen HE3.out 0
              have f1 := known_frozen HE3.out 1
              refine steps_write rfl rfl fun K hK => ?_
              go_simp
              have hq := two_put HE3.out (.string b1) (.string b2)
              have HQB : Hid (Below W.heap.size W ((V3.setCell ⟨G, 0, none⟩ (.string b1)).setCell ⟨G, 1, none⟩ (.string b2))) := two_put_below HR3.out hWG (.string b1) (.string b2)
              refine hK _ _ (.inr (HSJ.out _ HQB.out)) ?_
              clear hK K
              refine steps_write rfl rfl fun K hK => ?_
              go_simp
              refine hK _ _ (.inr (HSJ.out _ HQB.out)) ?_
              clear hK K
              refine steps_end ?_
              exact ⟨rfl, G, rfl, HQB.out, hq, hWG⟩
            · skip
              go_simp
              go_at_call 29
              refine (mul_to Ic.out Ip.out Il.out rfl _ (HTJ.out _ HR1.out)).mono ?_
              rintro e V2 ⟨rfl, hb⟩
              have HR2 : Hid (Below W.heap.size W V2) := HR1.out.trans (hb.mono HR1.out.size)
              refine hK _ _ (HSJ.out _ HR2.out) ?_
              clear hK K hb
              skip
              iterate 3
                refine float_read _ rfl rfl (fun w' hS => by obtain ⟨a0, a1⟩ := hS; go_simp; rfl) ?_
                simp only [List.getElem_toArray, List.getElem_cons_succ, List.getElem_cons_zero, Act.put, List.setIfInBounds_toArray, List.set_cons_zero, List.set_cons_succ]
              refine float_last rfl rfl fun K hK => ?_
              skip
              go_simp
              obtain ⟨G, hG⟩ : ∃ G, V2.heap.size = G := ⟨_, rfl⟩
              obtain ⟨V3, hVV⟩ : ∃ z0, V2.alloc (pObj ⟨#[]⟩ ⟨#[]⟩) = z0 := ⟨_, rfl⟩
              have hal : Below V2.heap.size V2 V3 := by rw [← hVV]; exact (Below.refl _ _).alloc (Nat.le_refl _) _
              have HR3 : Hid (Below W.heap.size W V3) := HR2.out.trans (hal.mono HR2.out.size)
              have HE3 : Hid (V3.heap[G]? = some (pObj ⟨#[]⟩ ⟨#[]⟩)) := by rw [← hVV, ← hG]; exact World.alloc_heap_new _ _
              have hWG : W.heap.size ≤ G := by rw [← hG]; exact HR2.out.size
              rw [hG, hVV]
              refine hK _ _ (HSJ.out _ HR3.out) ?_
              clear hK K hal hVV hG
              have r0 := known_cell HE3.out 0 rfl
              have r1 := known_cell HE3.out 1 rfl
              have f0 := known_frozen HE3.out 0
              have f1 := known_frozen HE3.out 1
              refine steps_write rfl rfl fun K hK => ?_
              go_simp
              have hq := two_put HE3.out (.string b1) (.string b2)
              have HQB : Hid (Below W.heap.size W ((V3.setCell ⟨G, 0, none⟩ (.string b1)).setCell ⟨G, 1, none⟩ (.string b2))) := two_put_below HR3.out hWG (.string b1) (.string b2)
              refine hK _ _ (.inr (HSJ.out _ HQB.out)) ?_
              clear hK K
              refine steps_write rfl rfl fun K hK => ?_
              go_simp
              refine hK _ _ (.inr (HSJ.out _ HQB.out)) ?_
              clear hK K
              refine steps_end ?_
              exact ⟨rfl, G, rfl, HQB.out, hq, hWG⟩
        case k =>
          skip
          rintro G w7 ⟨hb, hg, hWG⟩
          subst hWW
          have HB7 : Hid (Below w.heap.size w w7) := HB6.out.trans (hb.mono HB6.out.size)
          have HA7 := Lib.hid ((HA6.out.after hb (Nat.le_refl _)).also hg)
          clear hb hg hWG HSJ HTJ HR0
          try dsimp only
          skip
          have m0 := HA7.out.c0 0 rfl
          have m1 := HA7.out.c1 0 rfl
          go_wp2_with fail
          clear m0 m1
          skip
          refine (chance_to (HV.out.after HB7.out (Nat.le_refl _)) HC.out HLM.out Il.out RC.out.1.2 RC.out.2.2 Ih.out (HD.out.below HB7.out (Nat.le_refl _)) (HT.out.below HB7.out (Nat.le_refl _))).mono ?_
          rintro e w8 ⟨rfl, hb⟩
          have HB8 : Hid (Below w.heap.size w (w8.alloc (pObj h1 h2))) := (HB7.out.trans (hb.mono HB7.out.size)).alloc (Nat.le_trans HB7.out.size hb.size) _
          have HA8 := Lib.hid ((HA7.out.after hb (Nat.le_refl _)).push h1 h2)
          clear hb
          have m0 := HA8.out.c0 2 rfl
          have m1 := HA8.out.c1 2 rfl
          have m2 := HA8.out.c0 4 rfl
          have m3 := HA8.out.c1 4 rfl
          have m4 := HA8.out.c0 3 rfl
          have m5 := HA8.out.c0 0 rfl
          have m6 := HA8.out.c1 0 rfl
          by_cases h0 : cc = 0
          · have hx0 := zero_num Ic.out h0
            rw [hx0] at m4
            have hz : ((⟨#[48]⟩ : ByteArray).toList == [48]) = true := by decide +kernel
            clear h0 hx0
            go_wp2
            go_ret
            exact ⟨rfl, HB8.out⟩
          · have hz : (x.toList == [48]) = false := by rw [Bool.eq_false_iff]; exact fun h => h0 (Ic.out.num_zero.1 h)
            obtain ⟨g1, hg1⟩ : ∃ z, sgnR h r = z := ⟨_, rfl⟩
            have hlt : g1 < 0 := by rw [← hg1]; exact Int.not_le.1 (sgnR_lt (HLS.out h0))
            have HG1 := Lib.hid hg1
            clear h0 hg1
            go_wp2_with fail
            clear m0 m1 m2 m3 m4 m5 m6
            skip
            refine (cmp_to Ih.out Ia.out HG1.out _).mono ?_
            rintro e w9 ⟨rfl, hb⟩
            have HB9 := Lib.hid (HB8.out.trans (hb.mono HB8.out.size))
            have HA9 := Lib.hid (HA8.out.after hb (Nat.le_refl _))
            clear hb
            skip
            go_wp2
            go_ret
            exact ⟨rfl, HB9.out⟩
  · clear hG
    skip
    go_wp2
    go_ret
    exact ⟨rfl, HB2.out⟩
end Go.Proofs.YtcncdepjbhnknaaGreatDoor
/- DetectNeeds: for every list of bends, every fraction of strings and every uint8 the law returns true and each argument reads behind the call as it read before: the row without its closed facts. Conditions: the package-level variables that the row lists start as the text of the program lays them (the tie is given, over the pruned copy); the row is unfollowed and recurses. -/
namespace Go.Proofs.YtcncdepjbhnknaaGreatDoor
open Go.ChangeShapes Go.WideShapes Go.ChangeAt Go.RowKit

set_option maxRecDepth 100000 in
theorem needs_lifted (os : Os) (started : os.Started) (H : Type) (enc : TypeId × Value → H) :
    ReturnsInHanded {} Tryz.checked os 6 .any (fun w args => (Rows.detectNeedsSpec.pre enc Tryz.prog Tryz.f6 Rows.detectNeedsRow.domain false w args ∧ laidMetH Tryz.prog laid9 w) ∧ sizedMet enc Tryz.prog Tryz.f6 (OpenSpec.ofChange Rows.detectNeedsSpec) false w args)
      (Rows.detectNeedsSpec.post enc Tryz.prog Tryz.f6 false true false false) := by
  refine returnsInHanded_of_change_and (C := Tryz.checked) (X := fun w _ => laidMetH Tryz.prog laid9 w) (fun _ _ _ hh h => h.of_heap hh) own_seat started (by kernel_rfl) Tryz.func6
    (ChangeSpec.witness_shaped (enc := enc) (C := Tryz.checked) (os := os) (X := fun w _ => laidMetH Tryz.prog laid9 w) false (World.laidAll Tryz.prog os laid9) #[.slice none 0 0, .agg #[.string ⟨#[]⟩, .string ⟨#[]⟩], .int .u8 0] 8 (World.laidAll_os _ _ _)
      (World.shaped_of_ZipB (by kernel_rfl) (by kernel_rfl)) (by kernel_rfl) (by kernel_rfl) (by kernel_rfl) (met9 os _)) ?_
  intro W base args ds gs before hval0 hW hc _ hL _
  have hval : ∀ (j : Nat) t v, Tryz.f6.params[j]? = some t → args[j]? = some v → Value.okWide Tryz.prog W .any base t v := hval0
  have hW' := hW
  obtain ⟨p, q, hA0, hV, rfl, _, _⟩ := hW
  have hA : DataW.TrodAll enc Tryz.prog W 0 (fun _ => true) true Tryz.f6.params.toList args.toList ds p := hA0
  rw [Tryz.params6] at hA hval
  obtain ⟨v0, v1, v2, d0, d1, d2, p0, p1, p2, rfl, rfl, rfl, h0, h1, h2⟩ := trodAll_three hA
  obtain ⟨rfl, rfl⟩ := trodVars_none hV
  obtain ⟨bs0, hb0⟩ := open_bends (hval 0 _ v0 rfl rfl) h0
  obtain ⟨s1, t1, rfl, rfl⟩ := open_part (hval 1 _ v1 rfl rfl) h1
  obtain ⟨a2, rfl, rfl, rfl, wa2⟩ := open_int Tryz.underlying5 (hval 2 _ v2 rfl rfl) h2
  have ha2 : 0 ≤ a2 ∧ a2 ≤ 255 := by simpa [Lit.wf, IntKind.min, IntKind.max, IntKind.signed, IntKind.bits] using wa2
  obtain ⟨a2, rfl⟩ : ∃ n : Nat, a2 = n := ⟨a2.toNat, by omega⟩
  clear hA0 hval0
  simp only [List.append_nil] at hW'
  refine (needs_law hb0 s1 t1 a2 (by omega) (detV_of_laid9 hL) (tabs_of_laid9 hL)).mono fun e W' ⟨he, bel⟩ => ?_
  subst he
  have nx : ∀ x ∈ ([] : List MemPlace), x.block < W.heap.size := fun _ h => by cases h
  have hlt0 : ∀ x ∈ p0, x.block < W.heap.size := fun x hx => by first | (have := hW'.lt x hx; simpa using this) | (have := hW'.lt x (by simp [hx]); simpa using this)
  refine ⟨_, rfl, _, _, _, [], p0, [], hW', ?_, ?_, ?_, bel.frame _, fun h => by cases h⟩
  · exact trodAll_mk1 (shut_bool Tryz.underlying4 _)
  · have h9 := trodAll_mk3 (Below.trod out_seat (by kernel_rfl) (of_decide_eq_true (by kernel_rfl)) h0 bel hlt0) (Below.trod out_seat (by kernel_rfl) (of_decide_eq_true (by kernel_rfl)) h1 bel nx) (Below.trod out_seat (by kernel_rfl) (of_decide_eq_true (by kernel_rfl)) h2 bel nx)
    first | exact h9 | (simp only [List.append_nil, List.nil_append] at h9; exact h9) | (simpa using h9)
  · rfl
end Go.Proofs.YtcncdepjbhnknaaGreatDoor
