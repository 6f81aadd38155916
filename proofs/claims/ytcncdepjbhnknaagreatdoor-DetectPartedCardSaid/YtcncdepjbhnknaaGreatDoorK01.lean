/- The parts LawParted, LawPartedLift of a proof, put together by program (merge6.py). -/
import Derived.Test.YtcncdepjbhnknaaGreatDoorH21
import Derived.Test.YtcncdepjbhnknaaGreatDoorJ01
import Derived.Test.YtcncdepjbhnknaaGreatDoorJ06
import Derived.Test.YtcncdepjbhnknaaGreatDoorH22
set_option linter.unusedVariables false
set_option linter.unusedSimpArgs false
/- DetectParted's walk. -/
namespace Go.Proofs.YtcncdepjbhnknaaGreatDoor
open Go.RowKit Go.Shelf
attribute [local go_sem ↓] Go.wp_at_zero Go.wp_at_succ
abbrev SJ (q : Nat × ByteArray × ByteArray) (w' : World) : Prop := w'.cell? ⟨q.1, 0, none⟩ = some (.string q.2.1) ∧ w'.cell? ⟨q.1, 1, none⟩ = some (.string q.2.2)
theorem okE_or (s t : ByteArray) : (okE s t = 2) ∨ (okE s t = 0 ∧ okP s t = true) := by
  cases h : okP s t
  · exact .inl (okE_no h)
  · exact .inr ⟨okE_yes h, rfl⟩
theorem sgn_le {a b : Rat} (h : a ≤ b) : ∃ n, sgnR a b = n ∧ n ≤ (0 : Int) := ⟨_, rfl, Int.not_lt.1 (sgnR_le h)⟩
set_option maxRecDepth 100000 in
set_option maxHeartbeats 8000000 in
theorem parted_law {v : Value} {bs : List BB} {w : World} (hv : BL w v bs) (s1 t1 s2 t2 : ByteArray) (hD : DetV w) (hT : Tabs w) :
    Calls Tryz.prog 5 #[v, .agg #[.string s1, .string t1], .agg #[.string s2, .string t2]] w (BoolPost w true) := by
  obtain ⟨n, hn⟩ : ∃ n, bs.length = n := ⟨_, rfl⟩
  obtain ⟨p, c, rfl⟩ : ∃ p c, v = .slice p n c := by obtain ⟨p, c, h, _⟩ := id hv; exact ⟨_, _, by rw [← hn]; exact h⟩
  have HV := Lib.hid hv
  have HT := Lib.hid hT
  have HD := Lib.hid hD
  clear hv hn hT hD
  go_enter Tryz.func5, Tryz.ntmps5
  go_wp2_with fail
  obtain ⟨w0, hw0⟩ : ∃ w0, (w.alloc (pObj s1 t1)).alloc (pObj s2 t2) = w0 := ⟨_, rfl⟩
  rw [hw0]
  have HB0 : Hid (Below w.heap.size w w0) := by rw [← hw0]; exact ((Below.refl _ w).alloc (Nat.le_refl _) _).alloc (by simp) _
  have HA0 : Hid (Ats [(w.heap.size + 1, s2, t2), (w.heap.size, s1, t1)] w0) := by
    rw [← hw0]
    have h := ((Ats.nil w).push s1 t1).push s2 t2
    rwa [World.alloc_size] at h
  clear hw0
  skip
  refine (alive_any _ (HD.out.below HB0.out (Nat.le_refl _)) (HT.out.below HB0.out (Nat.le_refl _))).mono ?_
  rintro e w1 ⟨rfl, hb⟩
  have HB1 := Lib.hid (HB0.out.trans (hb.mono HB0.out.size))
  have HA1 := Lib.hid (HA0.out.after hb (Nat.le_refl _))
  clear hb
  go_wp2_with fail
  refine (great_any (HV.out.after HB1.out (Nat.le_refl _))).mono ?_
  rintro e w2 ⟨r, rfl, hG, hb⟩
  have HB2 := Lib.hid (HB1.out.trans (hb.mono HB1.out.size))
  have HA2 := Lib.hid (HA1.out.after hb (Nat.le_refl _))
  clear hb
  cases r
  · have HGR := Lib.hid (hG rfl)
    have HLM := Lib.hid (few_lim HGR.out.2)
    clear hG
    skip
    have m0 := HA2.out.c0 1 rfl
    have m1 := HA2.out.c1 1 rfl
    have m2 := HA2.out.c0 0 rfl
    have m3 := HA2.out.c1 0 rfl
    go_wp2_with fail
    clear m0 m1 m2 m3
    have hal := (Below.refl w2.heap.size w2).alloc (Nat.le_refl _) (.cells #[.string s1, .string t1, .string s2, .string t2] 46)
    have HB3 := Lib.hid (HB2.out.trans (hal.mono HB2.out.size))
    have HA3 := Lib.hid (HA2.out.after hal (Nat.le_refl _))
    clear hal
    refine (short_any 40 (by decide) (pl_two _ s1 t1 s2 t2)).mono ?_
    rintro e w4 ⟨rfl, hb⟩
    have HB4 := Lib.hid (HB3.out.trans (hb.mono HB3.out.size))
    have HA4 := Lib.hid (HA3.out.after hb (Nat.le_refl _))
    clear hb
    cases hsh : shortB 40 [(s1, t1), (s2, t2)]
    · clear hsh
      skip
      go_wp2
      go_ret
      exact ⟨rfl, HB4.out⟩
    · have hs := shortB_iff.1 hsh
      obtain ⟨l1, l2⟩ := hs (s1, t1) (by simp)
      obtain ⟨l3, l4⟩ := hs (s2, t2) (by simp)
      dsimp only at l1 l2 l3 l4
      have HLL : Hid ((s1.size ≤ 40 ∧ t1.size ≤ 40) ∧ s2.size ≤ 40 ∧ t2.size ≤ 40) := ⟨⟨l1, l2⟩, l3, l4⟩
      clear hsh hs l1 l2 l3 l4
      go_wp2_with fail
      refine (checkCurve_any (HV.out.after HB4.out (Nat.le_refl _)) HLM.out (HD.out.below HB4.out (Nat.le_refl _)) (HT.out.below HB4.out (Nat.le_refl _))).mono ?_
      rintro e w5 ⟨m, rfl, hE, hb⟩
      have HB5 := Lib.hid (HB4.out.trans (hb.mono HB4.out.size))
      have HA5 := Lib.hid (HA4.out.after hb (Nat.le_refl _))
      clear hb
      rcases hE with ⟨hC, rfl⟩ | ⟨hC, rfl⟩
      · have HC := Lib.hid hC
        clear hC
        skip
        have m0 := HA5.out.c0 1 rfl
        have m1 := HA5.out.c1 1 rfl
        go_wp2_with fail
        clear m0 m1
        skip
        refine (check_any s1 t1 _ (Nat.le_trans HLL.out.1.1 (by decide)) (Nat.le_trans HLL.out.1.2 (by decide))).mono ?_
        rintro e w6 ⟨rfl, hb⟩
        have HB6 := Lib.hid (HB5.out.trans (hb.mono HB5.out.size))
        have HA6 := Lib.hid (HA5.out.after hb (Nat.le_refl _))
        clear hb
        rcases okE_or s1 t1 with h1 | ⟨h1, ka⟩
        · rw [h1]
          clear h1
          skip
          go_wp2
          go_ret
          exact ⟨rfl, HB6.out⟩
        · rw [h1]
          have KA := Lib.hid ka
          clear h1 ka
          skip
          have m0 := HA6.out.c0 0 rfl
          have m1 := HA6.out.c1 0 rfl
          go_wp2_with fail
          clear m0 m1
          skip
          refine (check_any s2 t2 _ (Nat.le_trans HLL.out.2.1 (by decide)) (Nat.le_trans HLL.out.2.2 (by decide))).mono ?_
          rintro e w7 ⟨rfl, hb⟩
          have HB7 := Lib.hid (HB6.out.trans (hb.mono HB6.out.size))
          have HA7 := Lib.hid (HA6.out.after hb (Nat.le_refl _))
          clear hb
          rcases okE_or s2 t2 with h1 | ⟨h1, kb⟩
          · rw [h1]
            clear h1
            skip
            go_wp2
            go_ret
            exact ⟨rfl, HB7.out⟩
          · rw [h1]
            clear h1
            have ia := isP_of_ok KA.out
            have ib := isP_of_ok kb
            have za := ia.sz HLL.out.1.1 HLL.out.1.2
            have zb := ib.sz HLL.out.2.1 HLL.out.2.2
            have na := ia.nn
            have nb := ib.nn
            obtain ⟨a, ha⟩ : ∃ q, ratP s1 t1 = q := ⟨_, rfl⟩
            obtain ⟨b, hb⟩ : ∃ q, ratP s2 t2 = q := ⟨_, rfl⟩
            rw [ha] at ia za na
            rw [hb] at ib zb nb
            have nsum : 0 ≤ a + b := by grind
            have zsum := Sz.add na nb za zb
            obtain ⟨d1, d2, isum⟩ := sz_isP' nsum zsum (by decide) (by decide)
            obtain ⟨x, x1, x2, rx, ix, zx, nx, ux⟩ := chance_ex HC.out na za (by decide)
            obtain ⟨y, y1, y2, ry, iy, zy, ny, uy⟩ := chance_ex HC.out nb zb (by decide)
            obtain ⟨z, z1, z2, rz, iz, zz, nz, uz⟩ := chance_ex HC.out nsum zsum (by decide)
            have nmid : 0 ≤ (a + b) * mkRat (1 : Nat) 2 := Rat.mul_nonneg nsum half_nn
            have zmid := Sz.mul nsum half_nn zsum half_sz
            obtain ⟨e1, e2, imid⟩ := sz_isP' nmid zmid (by decide) (by decide)
            obtain ⟨h, h1, h2, rh, ih, zh, nh, uh⟩ := chance_ex HC.out nmid zmid (by decide)
            obtain ⟨f1, f2, iboth⟩ := sz_isP' (q := x + y) (by grind) (Sz.add nx ny zx zy) (by decide) (by decide)
            obtain ⟨g1, g2, itwice⟩ := sz_isP' (q := h + h) (by grind) (Sz.add nh nh zh zh) (by decide) (by decide)
            have hle1 : z ≤ x + y := rx.parted HC.out.conc' na nb ry rz
            have hle2 : x + y ≤ h + h := by
              have := rx.mid HC.out.conc' ry (m := (a + b) * mkRat (1 : Nat) 2) (by have := half_two (a + b); grind) rh
              grind
            obtain ⟨n1, hs1, hn1⟩ := sgn_le hle1
            obtain ⟨n2, hs2, hn2⟩ := sgn_le hle2
            have Ia := Lib.hid ia
            have Ib := Lib.hid ib
            have Isum := Lib.hid isum
            have Imid := Lib.hid imid
            have Iboth := Lib.hid iboth
            have Itwice := Lib.hid itwice
            have Ix := Lib.hid ix
            have Iy := Lib.hid iy
            have Iz := Lib.hid iz
            have Ih := Lib.hid ih
            have RC : Hid ((Sz 300 a ∧ Sz 300 b ∧ Sz 300 (a + b) ∧ Sz 300 ((a + b) * mkRat (1 : Nat) 2)) ∧ (ChanceR bs.length (cR bs) (hR bs) a x ∧ ChanceR bs.length (cR bs) (hR bs) b y ∧ ChanceR bs.length (cR bs) (hR bs) (a + b) z ∧ ChanceR bs.length (cR bs) (hR bs) ((a + b) * mkRat (1 : Nat) 2) h)) :=
              ⟨⟨za.mono (by decide), zb.mono (by decide), zsum.mono (by decide), zmid.mono (by decide)⟩, rx, ry, rz, rh⟩
            have HS1 := Lib.hid hs1
            have HS2 := Lib.hid hs2
            clear ia ib isum imid iboth itwice ix iy iz ih za zb zsum zmid zx zy zz zh rx ry rz rh na nb nx ny nz nh ux uy uz uh nsum nmid hle1 hle2 hs1 hs2 ha hb kb
            skip
            have m0 := HA7.out.c0 1 rfl
            have m1 := HA7.out.c1 1 rfl
            have m2 := HA7.out.c0 0 rfl
            have m3 := HA7.out.c1 0 rfl
            go_wp2_with fail
            clear m0 m1 m2 m3
            skip
            refine (add_to Ia.out Ib.out Isum.out rfl _ (HT.out.below HB7.out (Nat.le_refl _))).mono ?_
            rintro e w8 ⟨rfl, hb⟩
            have HB8 : Hid (Below w.heap.size w (w8.alloc (pObj d1 d2))) := (HB7.out.trans (hb.mono HB7.out.size)).alloc (Nat.le_trans HB7.out.size hb.size) _
            have HA8 := Lib.hid ((HA7.out.after hb (Nat.le_refl _)).push d1 d2)
            clear hb
            have m0 := HA8.out.c0 2 rfl
            have m1 := HA8.out.c1 2 rfl
            go_wp2_with fail
            clear m0 m1
            skip
            refine (chance_to (HV.out.after HB8.out (Nat.le_refl _)) HC.out HLM.out Ia.out RC.out.1.1 RC.out.2.1 Ix.out (HD.out.below HB8.out (Nat.le_refl _)) (HT.out.below HB8.out (Nat.le_refl _))).mono ?_
            rintro e w9 ⟨rfl, hb⟩
            have HB9 : Hid (Below w.heap.size w (w9.alloc (pObj x1 x2))) := (HB8.out.trans (hb.mono HB8.out.size)).alloc (Nat.le_trans HB8.out.size hb.size) _
            have HA9 := Lib.hid ((HA8.out.after hb (Nat.le_refl _)).push x1 x2)
            clear hb
            have m0 := HA9.out.c0 2 rfl
            have m1 := HA9.out.c1 2 rfl
            go_wp2_with fail
            clear m0 m1
            skip
            refine (chance_to (HV.out.after HB9.out (Nat.le_refl _)) HC.out HLM.out Ib.out RC.out.1.2.1 RC.out.2.2.1 Iy.out (HD.out.below HB9.out (Nat.le_refl _)) (HT.out.below HB9.out (Nat.le_refl _))).mono ?_
            rintro e w10 ⟨rfl, hb⟩
            have HB10 : Hid (Below w.heap.size w (w10.alloc (pObj y1 y2))) := (HB9.out.trans (hb.mono HB9.out.size)).alloc (Nat.le_trans HB9.out.size hb.size) _
            have HA10 := Lib.hid ((HA9.out.after hb (Nat.le_refl _)).push y1 y2)
            clear hb
            have m0 := HA10.out.c0 2 rfl
            have m1 := HA10.out.c1 2 rfl
            go_wp2_with fail
            clear m0 m1
            skip
            refine (chance_to (HV.out.after HB10.out (Nat.le_refl _)) HC.out HLM.out Isum.out RC.out.1.2.2.1 RC.out.2.2.2.1 Iz.out (HD.out.below HB10.out (Nat.le_refl _)) (HT.out.below HB10.out (Nat.le_refl _))).mono ?_
            rintro e w11 ⟨rfl, hb⟩
            have HB11 : Hid (Below w.heap.size w (w11.alloc (pObj z1 z2))) := (HB10.out.trans (hb.mono HB10.out.size)).alloc (Nat.le_trans HB10.out.size hb.size) _
            have HA11 := Lib.hid ((HA10.out.after hb (Nat.le_refl _)).push z1 z2)
            clear hb
            skip
            -- a fraction's half: W the world, q in the list's place i
            obtain ⟨W, hWW⟩ : ∃ z0, z0 = w11.alloc (pObj z1 z2) := ⟨_, rfl⟩
            have HSJ : Hid (∀ V, Below W.heap.size W V → SJ (w8.heap.size, d1, d2) V) := fun V hV => by
              subst hWW
              have h := HA11.out.after hV (Nat.le_refl _)
              exact ⟨h.c0 3 rfl, h.c1 3 rfl⟩
            have HTJ : Hid (∀ V, Below W.heap.size W V → Tabs V) := fun V hV => by
              subst hWW
              exact HT.out.below (HB11.out.trans (hV.mono HB11.out.size)) (Nat.le_refl _)
            have HR0 : Hid (Below W.heap.size W W.drew) := (Below.refl _ W).drew
            go_wp2_with fail
            rw [← hWW]
            apply region_join (R := (LaidP W e1 e2))
            case h =>
              refine float_plain 6 [(false, 7), (false, 8)] [(true, 0), (false, 1), (false, 2), (true, 3), (true, 4), (true, 5)] (SJ (w8.heap.size, d1, d2)) (by kernel_rfl) (by kernel_rfl) (fun _ _ _ _ _ h => by cases h.1) (HSJ.out _ HR0.out) ?_
              obtain ⟨V0, hV0⟩ : ∃ z0, W.drew = z0 := ⟨_, rfl⟩
              rw [hV0] at HR0 ⊢
              clear hV0
              skip
              iterate 1
                refine float_read _ rfl rfl (fun w' hS => by obtain ⟨a0, a1⟩ := hS; go_simp; rfl) ?_
                simp only [List.getElem_toArray, List.getElem_cons_succ, List.getElem_cons_zero, Act.put, List.setIfInBounds_toArray, List.set_cons_zero, List.set_cons_succ]
              refine float_write rfl rfl rfl rfl (fun K hK => ?_) (fun K hK => ?_)
              · skip
                go_simp
                obtain ⟨G, hG⟩ : ∃ G, V0.heap.size = G := ⟨_, rfl⟩
                obtain ⟨V1, hVV⟩ : ∃ z0, V0.alloc (pObj ⟨#[]⟩ ⟨#[]⟩) = z0 := ⟨_, rfl⟩
                have hal : Below V0.heap.size V0 V1 := by rw [← hVV]; exact (Below.refl _ _).alloc (Nat.le_refl _) _
                have HR1 : Hid (Below W.heap.size W V1) := HR0.out.trans (hal.mono HR0.out.size)
                have HE1 : Hid (V1.heap[G]? = some (pObj ⟨#[]⟩ ⟨#[]⟩)) := by rw [← hVV, ← hG]; exact World.alloc_heap_new _ _
                have hWG : W.heap.size ≤ G := by rw [← hG]; exact HR0.out.size
                rw [hG, hVV]
                refine hK _ _ (HSJ.out _ HR1.out) ?_
                clear hK K hal hVV hG
                refine steps_write rfl rfl fun K hK => ?_
                go_simp
                go_at_call 30
                refine (of_12 _ (HTJ.out _ HR1.out)).mono ?_
                rintro e V2 ⟨rfl, hb⟩
                have HR2 : Hid (Below W.heap.size W V2) := HR1.out.trans (hb.mono HR1.out.size)
                have HE2 : Hid (V2.heap[G]? = some (pObj ⟨#[]⟩ ⟨#[]⟩)) := (hb.block G (Array.getElem?_eq_some_iff.1 HE1.out).1).trans HE1.out
                refine hK _ _ (.inr (HSJ.out _ HR2.out)) ?_
                clear hK K hb
                refine steps_write rfl rfl fun K hK => ?_
                go_simp
                go_at_call 29
                refine (mul_to Isum.out half_isP Imid.out rfl _ (HTJ.out _ HR2.out)).mono ?_
                rintro e V3 ⟨rfl, hb⟩
                have HR3 : Hid (Below W.heap.size W V3) := HR2.out.trans (hb.mono HR2.out.size)
                have HE3 : Hid (V3.heap[G]? = some (pObj ⟨#[]⟩ ⟨#[]⟩)) := (hb.block G (Array.getElem?_eq_some_iff.1 HE2.out).1).trans HE2.out
                refine hK _ _ (.inr (HSJ.out _ HR3.out)) ?_
                clear hK K hb
                skip
                iterate 3
                  refine steps_read _ rfl rfl (fun w' hS => by go_simp; rfl) ?_
                  simp only [List.getElem_toArray, List.getElem_cons_succ, List.getElem_cons_zero, Act.put, List.setIfInBounds_toArray, List.set_cons_zero, List.set_cons_succ]
                have r0 := known_cell HE3.out 0 rfl
                have r1 := known_cell HE3.out 1 rfl
                have f0 := known_frozen HE3.out 0
                have f1 := known_frozen HE3.out 1
                refine steps_write rfl rfl fun K hK => ?_
                go_simp
                have hq := two_put HE3.out (.string e1) (.string e2)
                have HQB : Hid (Below W.heap.size W ((V3.setCell ⟨G, 0, none⟩ (.string e1)).setCell ⟨G, 1, none⟩ (.string e2))) := two_put_below HR3.out hWG (.string e1) (.string e2)
                refine hK _ _ (.inr (HSJ.out _ HQB.out)) ?_
                clear hK K
                refine steps_write rfl rfl fun K hK => ?_
                go_simp
                refine hK _ _ (.inr (HSJ.out _ HQB.out)) ?_
                clear hK K
                refine steps_end ?_
                exact ⟨rfl, G, rfl, HQB.out, hq, hWG⟩
              · skip
                go_simp
                go_at_call 30
                refine (of_12 _ (HTJ.out _ HR0.out)).mono ?_
                rintro e V1 ⟨rfl, hb⟩
                have HR1 : Hid (Below W.heap.size W V1) := HR0.out.trans (hb.mono HR0.out.size)
                refine hK _ _ (HSJ.out _ HR1.out) ?_
                clear hK K hb
                refine float_write rfl rfl rfl rfl (fun K hK => ?_) (fun K hK => ?_)
                · skip
                  go_simp
                  obtain ⟨G, hG⟩ : ∃ G, V1.heap.size = G := ⟨_, rfl⟩
                  obtain ⟨V2, hVV⟩ : ∃ z0, V1.alloc (pObj ⟨#[]⟩ ⟨#[]⟩) = z0 := ⟨_, rfl⟩
                  have hal : Below V1.heap.size V1 V2 := by rw [← hVV]; exact (Below.refl _ _).alloc (Nat.le_refl _) _
                  have HR2 : Hid (Below W.heap.size W V2) := HR1.out.trans (hal.mono HR1.out.size)
                  have HE2 : Hid (V2.heap[G]? = some (pObj ⟨#[]⟩ ⟨#[]⟩)) := by rw [← hVV, ← hG]; exact World.alloc_heap_new _ _
                  have hWG : W.heap.size ≤ G := by rw [← hG]; exact HR1.out.size
                  rw [hG, hVV]
                  refine hK _ _ (HSJ.out _ HR2.out) ?_
                  clear hK K hal hVV hG
                  refine steps_write rfl rfl fun K hK => ?_
                  go_simp
                  go_at_call 29
                  refine (mul_to Isum.out half_isP Imid.out rfl _ (HTJ.out _ HR2.out)).mono ?_
                  rintro e V3 ⟨rfl, hb⟩
                  have HR3 : Hid (Below W.heap.size W V3) := HR2.out.trans (hb.mono HR2.out.size)
                  have HE3 : Hid (V3.heap[G]? = some (pObj ⟨#[]⟩ ⟨#[]⟩)) := (hb.block G (Array.getElem?_eq_some_iff.1 HE2.out).1).trans HE2.out
                  refine hK _ _ (.inr (HSJ.out _ HR3.out)) ?_
                  clear hK K hb
                  skip
                  iterate 3
                    refine steps_read _ rfl rfl (fun w' hS => by go_simp; rfl) ?_
                    simp only [List.getElem_toArray, List.getElem_cons_succ, List.getElem_cons_zero, Act.put, List.setIfInBounds_toArray, List.set_cons_zero, List.set_cons_succ]
                  have r0 := known_cell HE3.out 0 rfl
                  have r1 := known_cell HE3.out 1 rfl
                  have f0 := known_frozen HE3.out 0
                  have f1 := known_frozen HE3.out 1
                  refine steps_write rfl rfl fun K hK => ?_
                  go_simp
                  have hq := two_put HE3.out (.string e1) (.string e2)
                  have HQB : Hid (Below W.heap.size W ((V3.setCell ⟨G, 0, none⟩ (.string e1)).setCell ⟨G, 1, none⟩ (.string e2))) := two_put_below HR3.out hWG (.string e1) (.string e2)
                  refine hK _ _ (.inr (HSJ.out _ HQB.out)) ?_
                  clear hK K
                  refine steps_write rfl rfl fun K hK => ?_
                  go_simp
                  refine hK _ _ (.inr (HSJ.out _ HQB.out)) ?_
                  clear hK K
                  refine steps_end ?_
                  exact ⟨rfl, G, rfl, HQB.out, hq, hWG⟩
                · skip
                  go_simp
                  go_at_call 29
                  refine (mul_to Isum.out half_isP Imid.out rfl _ (HTJ.out _ HR1.out)).mono ?_
                  rintro e V2 ⟨rfl, hb⟩
                  have HR2 : Hid (Below W.heap.size W V2) := HR1.out.trans (hb.mono HR1.out.size)
                  refine hK _ _ (HSJ.out _ HR2.out) ?_
                  clear hK K hb
                  skip
                  iterate 3
                    refine float_read _ rfl rfl (fun w' hS => by obtain ⟨a0, a1⟩ := hS; go_simp; rfl) ?_
                    simp only [List.getElem_toArray, List.getElem_cons_succ, List.getElem_cons_zero, Act.put, List.setIfInBounds_toArray, List.set_cons_zero, List.set_cons_succ]
                  refine float_last rfl rfl fun K hK => ?_
                  skip
                  go_simp
                  obtain ⟨G, hG⟩ : ∃ G, V2.heap.size = G := ⟨_, rfl⟩
                  obtain ⟨V3, hVV⟩ : ∃ z0, V2.alloc (pObj ⟨#[]⟩ ⟨#[]⟩) = z0 := ⟨_, rfl⟩
                  have hal : Below V2.heap.size V2 V3 := by rw [← hVV]; exact (Below.refl _ _).alloc (Nat.le_refl _) _
                  have HR3 : Hid (Below W.heap.size W V3) := HR2.out.trans (hal.mono HR2.out.size)
                  have HE3 : Hid (V3.heap[G]? = some (pObj ⟨#[]⟩ ⟨#[]⟩)) := by rw [← hVV, ← hG]; exact World.alloc_heap_new _ _
                  have hWG : W.heap.size ≤ G := by rw [← hG]; exact HR2.out.size
                  rw [hG, hVV]
                  refine hK _ _ (HSJ.out _ HR3.out) ?_
                  clear hK K hal hVV hG
                  have r0 := known_cell HE3.out 0 rfl
                  have r1 := known_cell HE3.out 1 rfl
                  have f0 := known_frozen HE3.out 0
                  have f1 := known_frozen HE3.out 1
                  refine steps_write rfl rfl fun K hK => ?_
                  go_simp
                  have hq := two_put HE3.out (.string e1) (.string e2)
                  have HQB : Hid (Below W.heap.size W ((V3.setCell ⟨G, 0, none⟩ (.string e1)).setCell ⟨G, 1, none⟩ (.string e2))) := two_put_below HR3.out hWG (.string e1) (.string e2)
                  refine hK _ _ (.inr (HSJ.out _ HQB.out)) ?_
                  clear hK K
                  refine steps_write rfl rfl fun K hK => ?_
                  go_simp
                  refine hK _ _ (.inr (HSJ.out _ HQB.out)) ?_
                  clear hK K
                  refine steps_end ?_
                  exact ⟨rfl, G, rfl, HQB.out, hq, hWG⟩
            case k =>
              skip
              rintro G w12 ⟨hb, hg, hWG⟩
              subst hWW
              have HB12 : Hid (Below w.heap.size w w12) := HB11.out.trans (hb.mono HB11.out.size)
              have HA12 := Lib.hid ((HA11.out.after hb (Nat.le_refl _)).also hg)
              clear hb hg hWG HSJ HTJ HR0
              try dsimp only
              skip
              have m0 := HA12.out.c0 0 rfl
              have m1 := HA12.out.c1 0 rfl
              go_wp2_with fail
              clear m0 m1
              skip
              refine (chance_to (HV.out.after HB12.out (Nat.le_refl _)) HC.out HLM.out Imid.out RC.out.1.2.2.2 RC.out.2.2.2.2 Ih.out (HD.out.below HB12.out (Nat.le_refl _)) (HT.out.below HB12.out (Nat.le_refl _))).mono ?_
              rintro e w13 ⟨rfl, hb⟩
              have HB13 : Hid (Below w.heap.size w (w13.alloc (pObj h1 h2))) := (HB12.out.trans (hb.mono HB12.out.size)).alloc (Nat.le_trans HB12.out.size hb.size) _
              have HA13 := Lib.hid ((HA12.out.after hb (Nat.le_refl _)).push h1 h2)
              clear hb
              have m0 := HA13.out.c0 4 rfl
              have m1 := HA13.out.c1 4 rfl
              have m2 := HA13.out.c0 3 rfl
              have m3 := HA13.out.c1 3 rfl
              go_wp2_with fail
              clear m0 m1 m2 m3
              skip
              refine (add_to Ix.out Iy.out Iboth.out rfl _ (HT.out.below HB13.out (Nat.le_refl _))).mono ?_
              rintro e w14 ⟨rfl, hb⟩
              have HB14 : Hid (Below w.heap.size w (w14.alloc (pObj f1 f2))) := (HB13.out.trans (hb.mono HB13.out.size)).alloc (Nat.le_trans HB13.out.size hb.size) _
              have HA14 := Lib.hid ((HA13.out.after hb (Nat.le_refl _)).push f1 f2)
              clear hb
              have m0 := HA14.out.c0 1 rfl
              have m1 := HA14.out.c1 1 rfl
              go_wp2_with fail
              clear m0 m1
              skip
              refine (add_to Ih.out Ih.out Itwice.out rfl _ (HT.out.below HB14.out (Nat.le_refl _))).mono ?_
              rintro e w15 ⟨rfl, hb⟩
              have HB15 : Hid (Below w.heap.size w (w15.alloc (pObj g1 g2))) := (HB14.out.trans (hb.mono HB14.out.size)).alloc (Nat.le_trans HB14.out.size hb.size) _
              have HA15 := Lib.hid ((HA14.out.after hb (Nat.le_refl _)).push g1 g2)
              clear hb
              have m0 := HA15.out.c0 4 rfl
              have m1 := HA15.out.c1 4 rfl
              have m2 := HA15.out.c0 1 rfl
              have m3 := HA15.out.c1 1 rfl
              go_wp2_with fail
              clear m0 m1 m2 m3
              skip
              refine (cmp_to Iz.out Iboth.out HS1.out _).mono ?_
              rintro e w16 ⟨rfl, hb⟩
              have HB16 := Lib.hid (HB15.out.trans (hb.mono HB15.out.size))
              have HA16 := Lib.hid (HA15.out.after hb (Nat.le_refl _))
              clear hb
              have m0 := HA16.out.c0 1 rfl
              have m1 := HA16.out.c1 1 rfl
              have m2 := HA16.out.c0 0 rfl
              have m3 := HA16.out.c1 0 rfl
              go_wp2_with fail
              clear m0 m1 m2 m3
              skip
              refine (cmp_to Iboth.out Itwice.out HS2.out _).mono ?_
              rintro e w17 ⟨rfl, hb⟩
              have HB17 := Lib.hid (HB16.out.trans (hb.mono HB16.out.size))
              have HA17 := Lib.hid (HA16.out.after hb (Nat.le_refl _))
              clear hb
              skip
              go_wp2
              go_ret
              exact ⟨rfl, HB17.out⟩
      · clear hC
        skip
        go_wp2
        go_ret
        exact ⟨rfl, HB5.out⟩
  · clear hG
    skip
    go_wp2
    go_ret
    exact ⟨rfl, HB2.out⟩
end Go.Proofs.YtcncdepjbhnknaaGreatDoor
/- DetectParted: for every list of bends and all fractions of strings the law returns true and each argument reads behind the call as it read before: the row without its closed facts. Conditions: the package-level variables that the row lists start as the text of the program lays them (the tie is given, over the pruned copy); the row is unfollowed and recurses. -/
namespace Go.Proofs.YtcncdepjbhnknaaGreatDoor
open Go.ChangeShapes Go.WideShapes Go.ChangeAt Go.RowKit

set_option maxRecDepth 100000 in
theorem parted_lifted (os : Os) (started : os.Started) (H : Type) (enc : TypeId × Value → H) :
    ReturnsInHanded {} Tryz.checked os 5 .any (fun w args => (Rows.detectPartedSpec.pre enc Tryz.prog Tryz.f5 Rows.detectPartedRow.domain false w args ∧ laidMetH Tryz.prog laid9 w) ∧ sizedMet enc Tryz.prog Tryz.f5 (OpenSpec.ofChange Rows.detectPartedSpec) false w args)
      (Rows.detectPartedSpec.post enc Tryz.prog Tryz.f5 false true false false) := by
  refine returnsInHanded_of_change_and (C := Tryz.checked) (X := fun w _ => laidMetH Tryz.prog laid9 w) (fun _ _ _ hh h => h.of_heap hh) own_seat started (by kernel_rfl) Tryz.func5
    (ChangeSpec.witness_shaped (enc := enc) (C := Tryz.checked) (os := os) (X := fun w _ => laidMetH Tryz.prog laid9 w) false (World.laidAll Tryz.prog os laid9) #[.slice none 0 0, .agg #[.string ⟨#[]⟩, .string ⟨#[]⟩], .agg #[.string ⟨#[]⟩, .string ⟨#[]⟩]] 8 (World.laidAll_os _ _ _)
      (World.shaped_of_ZipB (by kernel_rfl) (by kernel_rfl)) (by kernel_rfl) (by kernel_rfl) (by kernel_rfl) (met9 os _)) ?_
  intro W base args ds gs before hval0 hW hc _ hL _
  have hval : ∀ (j : Nat) t v, Tryz.f5.params[j]? = some t → args[j]? = some v → Value.okWide Tryz.prog W .any base t v := hval0
  have hW' := hW
  obtain ⟨p, q, hA0, hV, rfl, _, _⟩ := hW
  have hA : DataW.TrodAll enc Tryz.prog W 0 (fun _ => true) true Tryz.f5.params.toList args.toList ds p := hA0
  rw [Tryz.params5] at hA hval
  obtain ⟨v0, v1, v2, d0, d1, d2, p0, p1, p2, rfl, rfl, rfl, h0, h1, h2⟩ := trodAll_three hA
  obtain ⟨rfl, rfl⟩ := trodVars_none hV
  obtain ⟨bs0, hb0⟩ := open_bends (hval 0 _ v0 rfl rfl) h0
  obtain ⟨s1, t1, rfl, rfl⟩ := open_part (hval 1 _ v1 rfl rfl) h1
  obtain ⟨s2, t2, rfl, rfl⟩ := open_part (hval 2 _ v2 rfl rfl) h2
  clear hA0 hval0
  simp only [List.append_nil] at hW'
  refine (parted_law hb0 s1 t1 s2 t2 (detV_of_laid9 hL) (tabs_of_laid9 hL)).mono fun e W' ⟨he, bel⟩ => ?_
  subst he
  have nx : ∀ x ∈ ([] : List MemPlace), x.block < W.heap.size := fun _ h => by cases h
  have hlt0 : ∀ x ∈ p0, x.block < W.heap.size := fun x hx => by first | (have := hW'.lt x hx; simpa using this) | (have := hW'.lt x (by simp [hx]); simpa using this)
  refine ⟨_, rfl, _, _, _, [], p0, [], hW', ?_, ?_, ?_, bel.frame _, fun h => by cases h⟩
  · exact trodAll_mk1 (shut_bool Tryz.underlying4 _)
  · have h9 := trodAll_mk3 (Below.trod out_seat (by kernel_rfl) (of_decide_eq_true (by kernel_rfl)) h0 bel hlt0) (Below.trod out_seat (by kernel_rfl) (of_decide_eq_true (by kernel_rfl)) h1 bel nx) (Below.trod out_seat (by kernel_rfl) (of_decide_eq_true (by kernel_rfl)) h2 bel nx)
    first | exact h9 | (simp only [List.append_nil, List.nil_append] at h9; exact h9) | (simpa using h9)
  · rfl
end Go.Proofs.YtcncdepjbhnknaaGreatDoor
