/- The parts RShare, RUpdate of a proof, put together by program (merge.py). -/
import Derived.Test.YthbpadjhlkdpeaaGreatDoorG30
import Derived.Test.YthbpadjhlkdpeaaGreatDoorG21
import Derived.Test.YthbpadjhlkdpeaaGreatDoorG22
/- The document's Share and products. -/
namespace Go.Proofs.YthbpadjhlkdpeaaGreatDoor
open Go.RowKit Go.Shelf

theorem rdiv_step {a b : Rat} {s t u v : ByteArray} (ha : IsP a s t) (hb : IsP b u v) (hp : 0 < b) (w : World) :
    Calls Tryz.prog 21 #[.agg #[.string s, .string t], .agg #[.string u, .string v]] w (PartPost (Ans (a / b)) w) := by
  refine (rdiv_rat s t u v w ha.limit.1 ha.limit.2 hb.limit.1 hb.limit.2).mono ?_
  rintro e w' ⟨x, y, n, rfl, h, hB⟩
  have h1 := h.both ha.ok hb.ok
  rw [ha.rat, hb.rat] at h1
  rcases h1 with ⟨h1, _⟩ | ⟨_, h1⟩
  · rw [h1] at hp; exact absurd hp (by decide)
  · exact ⟨x, y, n, rfl, h1, hB⟩
theorem rmul_step {a b : Rat} {s t u v : ByteArray} (ha : IsP a s t) (hb : IsP b u v) (w : World) :
    Calls Tryz.prog 19 #[.agg #[.string s, .string t], .agg #[.string u, .string v]] w (PartPost (Ans (a * b)) w) := by
  refine (rmul_rat s t u v w ha.limit.1 ha.limit.2 hb.limit.1 hb.limit.2).mono ?_
  rintro e w' ⟨x, y, n, rfl, h, hB⟩
  have h1 := h.both ha.ok hb.ok
  rw [ha.rat, hb.rat] at h1
  exact ⟨x, y, n, rfl, h1, hB⟩

theorem Ats.drop1 {l : List (Nat × ByteArray × ByteArray)} {q : Nat × ByteArray × ByteArray} {w : World} (h : Ats (q :: l) w) : Ats l w := fun i p hp => h (i + 1) p (by simpa using hp)
theorem Ats.grown {l : List (Nat × ByteArray × ByteArray)} {w w' : World} {row : Option Nat} (h : Ats l w) (hg : w.grownBy w' row) (hr : ∀ (i : Nat) (p : Nat × ByteArray × ByteArray), l[i]? = some p → some p.1 ≠ row) : Ats l w' := fun i p hp => by
  rw [hg.block p.1 (h.lt i hp) (hr i p hp)]
  exact h i p hp

theorem shareA_step {z : Rat} {rs ts : List Rat} {k : Nat} {r : Rat} (h : shareA z rs = (shareA z (rs.drop k)).map (ts ++ ·)) (hr : rs.drop k = r :: rs.drop (k + 1)) :
    (Fits (r / z) → shareA z rs = (shareA z (rs.drop (k + 1))).map ((ts ++ [r / z]) ++ ·)) ∧ (¬ Fits (r / z) → shareA z rs = none) := by
  constructor
  · intro hf
    rw [h, hr, shareA, if_pos hf, Option.map_map]
    congr 1
    funext l
    simp
  · intro hf
    rw [h, hr, shareA, if_neg hf]; rfl
theorem prodA_step {rs qs ts : List Rat} {k : Nat} {r q : Rat} (h : prodA rs qs = (prodA (rs.drop k) (qs.drop k)).map (ts ++ ·)) (hr : rs.drop k = r :: rs.drop (k + 1)) (hq : qs.drop k = q :: qs.drop (k + 1)) :
    (Fits (r * q) → prodA rs qs = (prodA (rs.drop (k + 1)) (qs.drop (k + 1))).map ((ts ++ [r * q]) ++ ·)) ∧ (¬ Fits (r * q) → prodA rs qs = none) := by
  constructor
  · intro hf
    rw [h, hr, hq, prodA, if_pos hf, Option.map_map]
    congr 1
    funext l
    simp
  · intro hf
    rw [h, hr, hq, prodA, if_neg hf]; rfl

/-- What Share answers, and that the list is its own. -/
def ShareOwn (ps : List PP) (w : World) (e : Ending) (w' : World) : Prop :=
  Below w.heap.size w w' ∧ ((chkL [ps] ≠ 0 ∧ e = .returned (.tuple #[.slice none 0 0, .int .i64 (chkL [ps])])) ∨
    (chkL [ps] = 0 ∧ ((∃ s us v, shAll (rats ps) = .ok s ∧ IsL s us ∧ Own w' w.heap.size v us ∧ e = .returned (.tuple #[v, .int .i64 0])) ∨
      (∃ n, shAll (rats ps) = .error n ∧ e = .returned (.tuple #[.slice none 0 0, .int .i64 n])))))
theorem ShareOwn.weak {ps : List PP} {w w' : World} {e : Ending} (h : ShareOwn ps w e w') : ShareOf ps w e w' := by
  obtain ⟨hb, h | ⟨hc, ⟨s, us, v, h1, h2, h3, h4⟩ | h⟩⟩ := h
  · exact ⟨hb, .inl h⟩
  · exact ⟨hb, .inr ⟨hc, .inl ⟨s, us, v, h1, h2, h3.pl, h4⟩⟩⟩
  · exact ⟨hb, .inr ⟨hc, .inr h⟩⟩

set_option maxRecDepth 100000 in
set_option maxHeartbeats 8000000 in
theorem rshare_own {u : Value} {ps : List PP} {w : World} (hu : PL w u ps) (hsm : ps.length ≤ 512 → ∀ p ∈ ps, p.1.size ≤ 1000000 ∧ p.2.size ≤ 1000000) :
    Calls Tryz.prog 33 #[u] w (ShareOwn ps w) := by
  obtain ⟨i0, hi, hz0, hz1, hz2⟩ := info_parts info_part
  have hS := rsum_any hu hsm
  obtain ⟨p1, n1, c1, rfl⟩ : ∃ p n c, u = .slice p n c := by obtain ⟨p, c, h, _⟩ := hu; exact ⟨_, _, _, h⟩
  have hn1 : ps.length = n1 := by obtain ⟨p, c, h, _⟩ := hu; injection h with _ h; exact h.symm
  have hcm : c1 ≤ maxLen ∧ n1 ≤ c1 := by
    obtain ⟨p, c, h, h1, h2, _⟩ := hu
    injection h with _ e2 e3
    omega
  unfold maxLen at hcm
  have HN := Lib.hid hn1
  have HU := Lib.hid hu
  clear hu hsm hn1
  go_enter Tryz.func33, Tryz.ntmps33
  go_wp2_with fail
  refine hS.mono ?_
  rintro e w2 ⟨hb2, hE⟩
  have HB2 := Lib.hid hb2
  clear hS hb2
  rcases hE with ⟨hc, rfl⟩ | ⟨hc, ⟨z, x, y, hz, hp, rfl⟩ | ⟨hz, rfl⟩⟩
  · obtain ⟨c, hcc⟩ : ∃ c, chkL [ps] = c := ⟨_, rfl⟩
    rw [hcc] at hc ⊢
    have hz2 : (c != 0) = true := by rw [bne_iff_ne]; exact hc
    have HC : Hid (chkL [ps] = c ∧ c ≠ 0) := ⟨hcc, hc⟩
    have HB3 := Lib.hid (HB2.out.alloc HB2.out.size (pObj ⟨#[]⟩ ⟨#[]⟩))
    clear hc hcc
    unfold emptyPart
    go_wp2
    go_ret2
    exact ⟨HB3.out, .inl ⟨by rw [HC.out.1]; exact HC.out.2, by rw [HC.out.1]; rfl⟩⟩
  rotate_left
  · have HC := Lib.hid hc
    have HE : Hid (shAll (rats ps) = .error 4) := shAll_s hz
    have HB3 := Lib.hid (HB2.out.alloc HB2.out.size (pObj ⟨#[]⟩ ⟨#[]⟩))
    clear hc hz
    unfold emptyPart
    go_wp2
    go_ret2
    exact ⟨HB3.out, .inr ⟨HC.out, .inr ⟨4, HE.out, rfl⟩⟩⟩
  obtain ⟨g1, g3⟩ := chkL_one hc
  have HQ1 := Lib.hid (isL_rats g3)
  have HC := Lib.hid hc
  have HZZ := Lib.hid hz
  have HP := Lib.hid hp
  have hn512 : n1 ≤ 512 := by rw [← HN.out]; exact g1
  have HA3 := Lib.hid ((Ats.nil w2).push x y)
  have HB3 := Lib.hid (HB2.out.alloc HB2.out.size (pObj x y))
  clear hc hz hp g1 g3
  by_cases h0 : z = 0
  · have hx0 : (x.toList == [48]) = true := HP.out.num_zero.2 h0
    have HE : Hid (shAll (rats ps) = .error 7) := shAll_z HZZ.out h0
    clear h0
    go_wp2
    go_ret2
    exact ⟨HB3.out, .inr ⟨HC.out, .inr ⟨7, HE.out, rfl⟩⟩⟩
  · have hx0 : (x.toList == [48]) = false := by
      rw [← Bool.not_eq_true]
      exact fun h => h0 (HP.out.num_zero.1 h)
    have HPOS : Hid (0 < z) := HP.out.pos h0
    have HZ0 := Lib.hid h0
    clear h0
    have m0 := HA3.out.c0 0 rfl
    have m1 := HA3.out.c1 0 rfl
    go_wp2
    clear m0 m1
    go_loopw [6, 7] (fun vo vi wr => ∃ (k : Nat) (ts : List Rat) (us : List PP), vi = .int .i64 k ∧ k ≤ n1 ∧ Hid (IsL ts us) ∧ Hid (us.length = k) ∧ Hid (Own wr (w2.heap.size + 1) vo us) ∧ Hid (shareA z (rats ps) = (shareA z ((rats ps).drop k)).map (ts ++ ·)) ∧ Hid (Ats [(w2.heap.size, x, y)] wr) ∧ Hid (Below w.heap.size w wr)) (fun _ vi _ => n1 - (intOf vi).toNat)
    case atStart => exact ⟨0, [], [], rfl, Nat.zero_le _, IsL.nil, rfl, Own.nil _ _, by show _ = _; simp, HA3, HB3⟩
    case round =>
      clear HA3 HB3
      obtain ⟨k, ts, us, rfl, hk, HI, HL, HO, HS, HA, HB⟩ := hrel
      obtain ⟨wy, rfl⟩ : ∃ wy : World, wy = wr := ⟨_, rfl⟩
      obtain ⟨po, no, co, rfl⟩ : ∃ p n c, u6 = .slice p n c := by
        rcases HO.out.2 with ⟨h, _⟩ | ⟨g, cap, cur, h, _⟩
        · exact ⟨_, _, _, h⟩
        · exact ⟨_, _, _, h⟩
      by_cases hlt : k < n1
      · have hkp : k < ps.length := by rw [HN.out]; exact hlt
        obtain ⟨bb, off, rfl, hbl, hat⟩ := HU.out.at1 hkp
        obtain ⟨s, hs⟩ : ∃ u, ps[k].1 = u := ⟨_, rfl⟩
        obtain ⟨t, ht⟩ : ∃ v, ps[k].2 = v := ⟨_, rfl⟩
        obtain ⟨r, hr⟩ : ∃ r, (rats ps)[k]'(by rw [HQ1.out.length]; exact hkp) = r := ⟨_, rfl⟩
        have HV : Hid (IsP r s t) := by rw [← hr, ← hs, ← ht]; exact HQ1.out.get k hkp
        have HD : Hid ((rats ps).drop k = r :: (rats ps).drop (k + 1)) := by rw [← hr]; exact List.drop_eq_getElem_cons _
        have HKS : Hid (∀ w', Below wy.heap.size wy w' → w'.cell? ⟨bb, off + k * 2, none⟩ = some (.string s) ∧ w'.cell? ⟨bb, off + k * 2 + 1, none⟩ = some (.string t) ∧ w'.cell? ⟨w2.heap.size, 0, none⟩ = some (.string x) ∧ w'.cell? ⟨w2.heap.size, 1, none⟩ = some (.string y)) := fun w' hb => by
          have h1 := hat w' (HB.out.trans (hb.mono HB.out.size))
          have h2 := HA.out.after hb (Nat.le_refl _)
          rw [hs, ht] at h1
          exact ⟨h1.1, h1.2, h2.c0 0 rfl, h2.c1 0 rfl⟩
        have i0' : (0 : Int) ≤ (k : Int) := by omega
        have i1' : (k : Int) < (n1 : Int) := by omega
        clear hat hs ht hr hkp
        have HK0 := Lib.hid (HKS.out wy (Below.refl _ wy))
        obtain ⟨k1, k2, k3, k4⟩ := HK0.out
        have HOZ : Hid (Boxes wy.heap.size [pObj ⟨#[]⟩ ⟨#[]⟩] (wy.alloc (pObj ⟨#[]⟩ ⟨#[]⟩))) := Boxes.one wy _
        have HZ : Hid (Below wy.heap.size wy (wy.alloc (pObj ⟨#[]⟩ ⟨#[]⟩))) := (Below.refl _ wy).alloc (Nat.le_refl _) _
        have HKA := Lib.hid (HKS.out _ HZ.out)
        go_wp2_with fail
        go_region_held3
          (fun w' => w'.cell? ⟨bb, off + k * 2, none⟩ = some (.string s) ∧ w'.cell? ⟨bb, off + k * 2 + 1, none⟩ = some (.string t) ∧ w'.cell? ⟨w2.heap.size, 0, none⟩ = some (.string x) ∧ w'.cell? ⟨w2.heap.size, 1, none⟩ = some (.string y))
          (first | exact ⟨k1, k2, k3, k4⟩ | exact HKA.out | exact HK5.out | exact HK6.out | exact HK7.out | exact HK8.out)
          (first
            | (go_at_call 21; refine (rdiv_step HV.out HP.out HPOS.out _).mono ?_; rintro e w5 ⟨x', y', n', rfl, hR, hb⟩; have HR := Lib.hid hR; have HX5 : Hid (Below wy.heap.size wy w5) := ((Below.refl wy.heap.size wy).drew).trans hb; have HK5 := Lib.hid (HKS.out w5 HX5.out); have HK6 := Lib.hid (HKS.out _ (HX5.out.alloc HX5.out.size (pObj ⟨#[]⟩ ⟨#[]⟩))); have HK7 := Lib.hid (HKS.out _ (HX5.out.alloc HX5.out.size (pObj x' y'))); clear hb hR)
            | (go_at_call 21; refine (rdiv_step HV.out HP.out HPOS.out _).mono ?_; rintro e w5 ⟨x', y', n', rfl, hR, hb⟩; have HR := Lib.hid hR; have HX5 : Hid (Below wy.heap.size wy w5) := HZ.out.drew.trans (hb.mono HZ.out.size); have HOB := Lib.hid (HOZ.out.drew.below hb HOZ.out.lt); have r0 := HOB.out.cell 0 0 (b := wy.heap.size) rfl rfl rfl; have r1 := HOB.out.cell 0 1 (b := wy.heap.size) rfl rfl rfl; have f0 := HOB.out.free 0 0 (b := wy.heap.size) rfl rfl; have f1 := HOB.out.free 0 1 (b := wy.heap.size) rfl rfl; have HK5 := Lib.hid (HKS.out w5 HX5.out); have HK7 := Lib.hid (HKS.out _ ((HX5.out.setCell (p := ⟨wy.heap.size, 0, none⟩) (Nat.le_refl _) (.string x')))); have HK8 := Lib.hid (HKS.out _ ((HX5.out.setCell (p := ⟨wy.heap.size, 0, none⟩) (Nat.le_refl _) (.string x')).setCell (p := ⟨wy.heap.size, 1, none⟩) (Nat.le_refl _) (.string y'))); clear hb hR))
        clear k1 k2 k3 k4
        all_goals
          first
            | (obtain ⟨w6, hW6⟩ : ∃ w6, w5.alloc (pObj x' y') = w6 := ⟨_, rfl⟩
               rw [hW6]
               have HX6 : Hid (Below wy.heap.size wy w6) := by rw [← hW6]; exact HX5.out.alloc HX5.out.size _
               have HA6 : Hid (Ats [(w5.heap.size, x', y'), (w2.heap.size, x, y)] w6) := by rw [← hW6]; exact (HA.out.after HX5.out (Nat.le_refl _)).push x' y'
               obtain ⟨g6, hg6⟩ : ∃ g6, w5.heap.size = g6 := ⟨_, rfl⟩
               rw [hg6] at HA6 ⊢
               clear hW6 hg6 HK5 HK6 HK7 HX5)
            | (obtain ⟨w6, hW6⟩ : ∃ w6, (w5.setCell ⟨wy.heap.size, 0, none⟩ (.string x')).setCell ⟨wy.heap.size, 1, none⟩ (.string y') = w6 := ⟨_, rfl⟩
               rw [hW6]
               have HX6 : Hid (Below wy.heap.size wy w6) := by rw [← hW6]; exact (HX5.out.setCell (p := ⟨wy.heap.size, 0, none⟩) (Nat.le_refl _) (.string x')).setCell (p := ⟨wy.heap.size, 1, none⟩) (Nat.le_refl _) (.string y')
               have HA6 : Hid (Ats [(wy.heap.size, x', y'), (w2.heap.size, x, y)] w6) := by rw [← hW6]; exact (HA.out.after HX5.out (Nat.le_refl _)).put (HOB.out.block 0 rfl rfl) (fun i p hp => Nat.ne_of_lt (HA.out.lt i hp)) x' y'
               obtain ⟨g6, hg6⟩ : ∃ g6, wy.heap.size = g6 := ⟨_, rfl⟩
               rw [hg6] at HA6 ⊢
               clear hW6 hg6 HK5 HK7 HK8 HX5 HOB r0 r1 f0 f1)
          have HB6 : Hid (Below w.heap.size w w6) := HB.out.trans (HX6.out.mono HB.out.size)
          have HO6 : Hid (Own w6 (w2.heap.size + 1) (.slice po no co) us) := HO.out.after HX6.out
          by_cases hn : n' = 0
          · have hz : (n' != 0) = false := by rw [bne_eq_false_iff_eq]; exact hn
            have HP3 : Hid (IsP (r / z) x' y') := HR.out.zero hn
            clear hn
            have hm1 : us.length + 1 ≤ maxLen := by rw [HL.out]; unfold maxLen; omega
            have hm2 : (us.length + 1) * 32 ≤ 140737488355328 := by rw [HL.out]; omega
            have hownA : (w6.alloc (.cells #[.string x', .string y'] 24)).ownsRow (w2.heap.size + 1) 24 2 (.slice po no co) us.length (pcells us) := World.ownsRow.alloc HO6.out _
            have hnews : ∀ (j : Nat) (z : Value), ([.string x', .string y'] : List Value)[j]? = some z → (w6.alloc (.cells #[.string x', .string y'] 24)).cell? ((⟨w6.heap.size, 0, none⟩ : Addr).add j) = some z := World.news_of_block (World.alloc_heap_new w6 _)
            have al3 := (Below.refl w6.heap.size w6).alloc (Nat.le_refl _) (.cells #[.string x', .string y'] 24)
            have hm3 : w2.heap.size + 1 ≤ (w6.alloc (.cells #[.string x', .string y'] 24)).heap.size := Nat.le_trans (HA6.out.lt 1 rfl) al3.size
            have hsz2 := HB2.out.size
            have hsz6 := HB6.out.size
            have m0 := HA6.out.c0 0 rfl
            have m1 := HA6.out.c1 0 rfl
            have HL3 : Hid ((us ++ [(x', y')]).length = k + 1) := by show _ = _; rw [List.length_append, HL.out]; rfl
            have HAN := Lib.hid (HA6.out.drop1)
            go_wp2_with (at_builtin; go_loud (refine wpList_append_lies _ rfl _ _ 34 rfl (w2.heap.size + 1) 24 i0 (.agg #[.string ⟨#[]⟩, .string ⟨#[]⟩]) 2 32 Tryz.underlying34 hi hz0 hz1 hz2 rfl (by decide) _ us.length (pcells us) rfl hownA ⟨w6.heap.size, 0, none⟩ 1 1 [.string x', .string y'] rfl rfl hnews (by simp [Value.oneCell']) (by decide) hm1 hm2 hm3 (w6.heap.size + 1) (by simp) ?_); intro gg cap5 w7 hown5 hgrow hat hlt5)
            have HB7 : Hid (Below w.heap.size w w7) := (HB6.out.alloc hsz6 _).grown hgrow (by simp; omega) (fun z hz => by have := (World.ownsRow.lt hownA z hz).1; omega)
            have HO7 : Hid (Own w7 (w2.heap.size + 1) (.slice (some ⟨gg, 0, none⟩) (us.length + 1) cap5) (us ++ [(x', y')])) := by
              show w7.ownsRow _ _ _ _ _ _
              rw [List.length_append, pcells_append]; exact hown5
            have HA7 : Hid (Ats [(w2.heap.size, x, y)] w7) := by
              refine (HAN.out.after al3 (Nat.le_refl _)).grown hgrow fun i p hp hc => ?_
              have h1 := (World.ownsRow.lt hownA p.1 hc.symm).1
              cases i with
              | zero =>
                obtain rfl := Option.some.inj hp
                exact absurd h1 (by simp)
              | succ i => simp at hp
            clear hgrow hat hlt5 hown5 hownA hnews al3
            rw [HL.out] at HO7 ⊢
            have HI2 := Lib.hid (HI.out.snoc HP3.out)
            have HS2 := Lib.hid ((shareA_step HS.out HD.out).1 HP3.out.fits)
            go_wp2
            go_roundw
            case rel => exact ⟨k + 1, _, _, by go_num, by omega, HI2, HL3, HO7, HS2, HA7, HB7⟩
            case measure => simp [intOf]; omega
          · have hz : (n' != 0) = true := by rw [bne_iff_ne]; exact hn
            have HN2 : Hid (shAll (rats ps) = .error 4 ∧ n' = 4) := by
              rcases HR.out with ⟨_, h1⟩ | ⟨h1, _, _, h2⟩
              · exact absurd h1 hn
              · exact ⟨shAll_q HZZ.out HZ0.out ((shareA_step HS.out HD.out).2 h1), h2⟩
            clear hn
            go_wp2
            go_ret2
            exact ⟨HB6.out, .inr ⟨HC.out, .inr ⟨4, HN2.out.1, by rw [HN2.out.2]; rfl⟩⟩⟩
      · have HE : Hid (shAll (rats ps) = .ok ts) := by
          refine shAll_ok HZZ.out HZ0.out ?_
          rw [HS.out, List.drop_of_length_le (by rw [HQ1.out.length, HN.out]; omega)]; simp [shareA]
        go_wp2
        go_ret2
        exact ⟨HB.out, .inr ⟨HC.out, .inl ⟨_, _, _, HE.out, HI.out, HO.out.mono (by have := HB2.out.size; omega), rfl⟩⟩⟩
theorem rshare_any {u : Value} {ps : List PP} {w : World} (hu : PL w u ps) (hsm : ps.length ≤ 512 → ∀ p ∈ ps, p.1.size ≤ 1000000 ∧ p.2.size ≤ 1000000) :
    Calls Tryz.prog 33 #[u] w (ShareOf ps w) := by
  first
    | exact (rshare_own hu hsm).mono fun _ _ h => h.weak
end Go.Proofs.YthbpadjhlkdpeaaGreatDoor
/- The document's products, Update, Mean. -/
namespace Go.Proofs.YthbpadjhlkdpeaaGreatDoor
open Go.RowKit Go.Shelf

/-- What the document's products answer. -/
def ProdPost (ps os : List PP) (w : World) (e : Ending) (w' : World) : Prop :=
  Below w.heap.size w w' ∧ ((pairE ps os ≠ 0 ∧ e = .returned (.tuple #[.slice none 0 0, .int .i64 (pairE ps os)])) ∨
    (pairE ps os = 0 ∧ ((∃ ts us v, prodA (rats ps) (rats os) = some ts ∧ IsL ts us ∧ us.length = ps.length ∧ PL w' v us ∧ e = .returned (.tuple #[v, .int .i64 0])) ∨
      (prodA (rats ps) (rats os) = none ∧ e = .returned (.tuple #[.slice none 0 0, .int .i64 4])))))

theorem PL.len {w : World} {p : Option Addr} {n c : Nat} {ps : List PP} (h : PL w (.slice p n c) ps) : ps.length = n ∧ c ≤ 9223372036854775807 ∧ n ≤ c := by
  obtain ⟨p', c', h0, h1, h2, _⟩ := h
  injection h0 with _ e2 e3
  unfold maxLen at h2
  omega

set_option maxRecDepth 100000 in
set_option maxHeartbeats 8000000 in
theorem rproducts_any {u v : Value} {ps os : List PP} {w : World} (hu : PL w u ps) (hv : PL w v os) (hsm : ps.length ≤ 512 → os.length ≤ 512 → ∀ p ∈ ps ++ os, p.1.size ≤ 1000000 ∧ p.2.size ≤ 1000000) :
    Calls Tryz.prog 78 #[u, v] w (ProdPost ps os w) := by
  obtain ⟨i0, hi, hz0, hz1, hz2⟩ := info_parts info_part
  have hL := lists_any hu hv hsm
  obtain ⟨p1, n1, c1, rfl⟩ : ∃ p n c, u = .slice p n c := by obtain ⟨p, c, h, _⟩ := hu; exact ⟨_, _, _, h⟩
  obtain ⟨p2, n2, c2, rfl⟩ : ∃ p n c, v = .slice p n c := by obtain ⟨p, c, h, _⟩ := hv; exact ⟨_, _, _, h⟩
  obtain ⟨hn1, hc1, hc1'⟩ := hu.len
  obtain ⟨hn2, hc2, hc2'⟩ := hv.len
  have HN := Lib.hid (And.intro hn1 hn2)
  have HU := Lib.hid hu
  have HV := Lib.hid hv
  clear hu hv hsm hn1 hn2
  obtain ⟨c, hc⟩ : ∃ c, chkL [ps, os] = c := ⟨_, rfl⟩
  rw [hc] at hL
  by_cases h0 : c = 0
  · subst h0
    by_cases he : n1 = n2
    · subst he
      have hb : ((n1 : Int) != n1) = false := by simp
      obtain ⟨g1, g3⟩ := chkL_zero hc
      have hn512 : n1 ≤ 512 := by rw [← HN.out.1]; exact g1 ps (by simp)
      have HQ1 := Lib.hid (isL_rats (g3 ps (by simp)))
      have HQ2 := Lib.hid (isL_rats (g3 os (by simp)))
      have HP : Hid (pairE ps os = 0) := by show _ = _; unfold pairE; rw [if_pos hc, if_pos (by rw [HN.out.1, HN.out.2])]
      clear hc g1 g3
      go_enter Tryz.func78, Tryz.ntmps78
      go_wp2_with fail
      refine hL.mono ?_
      rintro e w2 ⟨rfl, hb2⟩
      have HB2 := Lib.hid hb2
      clear hL hb2
      go_wp2
      go_loopw [7, 8] (fun vo vi wr => ∃ (k : Nat) (ts : List Rat) (us : List PP), vi = .int .i64 k ∧ k ≤ n1 ∧ Hid (IsL ts us) ∧ Hid (us.length = k) ∧ Hid (Own wr w.heap.size vo us) ∧ Hid (prodA (rats ps) (rats os) = (prodA ((rats ps).drop k) ((rats os).drop k)).map (ts ++ ·)) ∧ Hid (Below w.heap.size w wr)) (fun _ vi _ => n1 - (intOf vi).toNat)
      case atStart => exact ⟨0, [], [], rfl, Nat.zero_le _, IsL.nil, rfl, Own.nil _ _, by show _ = _; simp, HB2⟩
      case round =>
        clear HB2
        obtain ⟨k, ts, us, rfl, hk, HI, HL, HO, HS, HB⟩ := hrel
        obtain ⟨wy, rfl⟩ : ∃ wy : World, wy = wr := ⟨_, rfl⟩
        obtain ⟨po, no, co, rfl⟩ : ∃ p n c, u7 = .slice p n c := by
          rcases HO.out.2 with ⟨h, _⟩ | ⟨g, cap, cur, h, _⟩
          · exact ⟨_, _, _, h⟩
          · exact ⟨_, _, _, h⟩
        by_cases hlt : k < n1
        · have hkp : k < ps.length := by rw [HN.out.1]; exact hlt
          have hkq : k < os.length := by rw [HN.out.2]; exact hlt
          obtain ⟨bb, off, rfl, hbl, hat⟩ := HU.out.at1 hkp
          obtain ⟨b2, off2, rfl, hbl2, hat2⟩ := HV.out.at1 hkq
          obtain ⟨s, hs⟩ : ∃ u, ps[k].1 = u := ⟨_, rfl⟩
          obtain ⟨t, ht⟩ : ∃ v, ps[k].2 = v := ⟨_, rfl⟩
          obtain ⟨s2, hs2⟩ : ∃ u, os[k].1 = u := ⟨_, rfl⟩
          obtain ⟨t2, ht2⟩ : ∃ v, os[k].2 = v := ⟨_, rfl⟩
          obtain ⟨r, hr⟩ : ∃ r, (rats ps)[k]'(by rw [HQ1.out.length]; exact hkp) = r := ⟨_, rfl⟩
          obtain ⟨q, hq⟩ : ∃ r, (rats os)[k]'(by rw [HQ2.out.length]; exact hkq) = r := ⟨_, rfl⟩
          have HR1 : Hid (IsP r s t) := by rw [← hr, ← hs, ← ht]; exact HQ1.out.get k hkp
          have HR2 : Hid (IsP q s2 t2) := by rw [← hq, ← hs2, ← ht2]; exact HQ2.out.get k hkq
          have HD : Hid ((rats ps).drop k = r :: (rats ps).drop (k + 1) ∧ (rats os).drop k = q :: (rats os).drop (k + 1)) := ⟨by rw [← hr]; exact List.drop_eq_getElem_cons _, by rw [← hq]; exact List.drop_eq_getElem_cons _⟩
          have HKS : Hid (∀ w', Below wy.heap.size wy w' → w'.cell? ⟨bb, off + k * 2, none⟩ = some (.string s) ∧ w'.cell? ⟨bb, off + k * 2 + 1, none⟩ = some (.string t) ∧ w'.cell? ⟨b2, off2 + k * 2, none⟩ = some (.string s2) ∧ w'.cell? ⟨b2, off2 + k * 2 + 1, none⟩ = some (.string t2)) := fun w' hb => by
            have h1 := hat w' (HB.out.trans (hb.mono HB.out.size))
            have h2 := hat2 w' (HB.out.trans (hb.mono HB.out.size))
            rw [hs, ht] at h1
            rw [hs2, ht2] at h2
            exact ⟨h1.1, h1.2, h2.1, h2.2⟩
          have i0' : (0 : Int) ≤ (k : Int) := by omega
          have i1' : (k : Int) < (n1 : Int) := by omega
          have HAT := Lib.hid (Ats.nil wy)
          clear hat hs ht hr hkp hat2 hs2 ht2 hq hkq
          have HK0 := Lib.hid (HKS.out wy (Below.refl _ wy))
          obtain ⟨k1, k2, k3, k4⟩ := HK0.out
          have HOZ : Hid (Boxes wy.heap.size [pObj ⟨#[]⟩ ⟨#[]⟩] (wy.alloc (pObj ⟨#[]⟩ ⟨#[]⟩))) := Boxes.one wy _
          have HZ : Hid (Below wy.heap.size wy (wy.alloc (pObj ⟨#[]⟩ ⟨#[]⟩))) := (Below.refl _ wy).alloc (Nat.le_refl _) _
          have HKA := Lib.hid (HKS.out _ HZ.out)
          go_wp2_with fail
          go_region_held3
            (fun w' => w'.cell? ⟨bb, off + k * 2, none⟩ = some (.string s) ∧ w'.cell? ⟨bb, off + k * 2 + 1, none⟩ = some (.string t) ∧ w'.cell? ⟨b2, off2 + k * 2, none⟩ = some (.string s2) ∧ w'.cell? ⟨b2, off2 + k * 2 + 1, none⟩ = some (.string t2))
            (first | exact ⟨k1, k2, k3, k4⟩ | exact HKA.out | exact HK5.out | exact HK6.out | exact HK7.out | exact HK8.out)
            (first
              | (go_at_call 19; refine (rmul_step HR1.out HR2.out _).mono ?_; rintro e w5 ⟨x', y', n', rfl, hR, hb⟩; have HR := Lib.hid hR; have HX5 : Hid (Below wy.heap.size wy w5) := ((Below.refl wy.heap.size wy).drew).trans hb; have HK5 := Lib.hid (HKS.out w5 HX5.out); have HK6 := Lib.hid (HKS.out _ (HX5.out.alloc HX5.out.size (pObj ⟨#[]⟩ ⟨#[]⟩))); have HK7 := Lib.hid (HKS.out _ (HX5.out.alloc HX5.out.size (pObj x' y'))); clear hb hR)
              | (go_at_call 19; refine (rmul_step HR1.out HR2.out _).mono ?_; rintro e w5 ⟨x', y', n', rfl, hR, hb⟩; have HR := Lib.hid hR; have HX5 : Hid (Below wy.heap.size wy w5) := HZ.out.drew.trans (hb.mono HZ.out.size); have HOB := Lib.hid (HOZ.out.drew.below hb HOZ.out.lt); have r0 := HOB.out.cell 0 0 (b := wy.heap.size) rfl rfl rfl; have r1 := HOB.out.cell 0 1 (b := wy.heap.size) rfl rfl rfl; have f0 := HOB.out.free 0 0 (b := wy.heap.size) rfl rfl; have f1 := HOB.out.free 0 1 (b := wy.heap.size) rfl rfl; have HK5 := Lib.hid (HKS.out w5 HX5.out); have HK7 := Lib.hid (HKS.out _ ((HX5.out.setCell (p := ⟨wy.heap.size, 0, none⟩) (Nat.le_refl _) (.string x')))); have HK8 := Lib.hid (HKS.out _ ((HX5.out.setCell (p := ⟨wy.heap.size, 0, none⟩) (Nat.le_refl _) (.string x')).setCell (p := ⟨wy.heap.size, 1, none⟩) (Nat.le_refl _) (.string y'))); clear hb hR))
          clear k1 k2 k3 k4
          all_goals
            first
              | (obtain ⟨w6, hW6⟩ : ∃ w6, w5.alloc (pObj x' y') = w6 := ⟨_, rfl⟩
                 rw [hW6]
                 have HX6 : Hid (Below wy.heap.size wy w6) := by rw [← hW6]; exact HX5.out.alloc HX5.out.size _
                 have HA6 : Hid (Ats [(w5.heap.size, x', y')] w6) := by rw [← hW6]; exact (HAT.out.after HX5.out (Nat.le_refl _)).push x' y'
                 obtain ⟨g6, hg6⟩ : ∃ g6, w5.heap.size = g6 := ⟨_, rfl⟩
                 rw [hg6] at HA6 ⊢
                 clear hW6 hg6 HK5 HK6 HK7 HX5)
              | (obtain ⟨w6, hW6⟩ : ∃ w6, (w5.setCell ⟨wy.heap.size, 0, none⟩ (.string x')).setCell ⟨wy.heap.size, 1, none⟩ (.string y') = w6 := ⟨_, rfl⟩
                 rw [hW6]
                 have HX6 : Hid (Below wy.heap.size wy w6) := by rw [← hW6]; exact (HX5.out.setCell (p := ⟨wy.heap.size, 0, none⟩) (Nat.le_refl _) (.string x')).setCell (p := ⟨wy.heap.size, 1, none⟩) (Nat.le_refl _) (.string y')
                 have HA6 : Hid (Ats [(wy.heap.size, x', y')] w6) := by rw [← hW6]; exact (HAT.out.after HX5.out (Nat.le_refl _)).put (HOB.out.block 0 rfl rfl) (fun i p hp => Nat.ne_of_lt (HAT.out.lt i hp)) x' y'
                 obtain ⟨g6, hg6⟩ : ∃ g6, wy.heap.size = g6 := ⟨_, rfl⟩
                 rw [hg6] at HA6 ⊢
                 clear hW6 hg6 HK5 HK7 HK8 HX5 HOB r0 r1 f0 f1)
            have HB6 : Hid (Below w.heap.size w w6) := HB.out.trans (HX6.out.mono HB.out.size)
            have HO6 : Hid (Own w6 w.heap.size (.slice po no co) us) := HO.out.after HX6.out
            by_cases hn : n' = 0
            · have hz : (n' != 0) = false := by rw [bne_eq_false_iff_eq]; exact hn
              have HP3 : Hid (IsP (r * q) x' y') := HR.out.zero hn
              clear hn
              have hm1 : us.length + 1 ≤ maxLen := by rw [HL.out]; unfold maxLen; omega
              have hm2 : (us.length + 1) * 32 ≤ 140737488355328 := by rw [HL.out]; omega
              have hownA : (w6.alloc (.cells #[.string x', .string y'] 24)).ownsRow w.heap.size 24 2 (.slice po no co) us.length (pcells us) := World.ownsRow.alloc HO6.out _
              have hnews : ∀ (j : Nat) (z : Value), ([.string x', .string y'] : List Value)[j]? = some z → (w6.alloc (.cells #[.string x', .string y'] 24)).cell? ((⟨w6.heap.size, 0, none⟩ : Addr).add j) = some z := World.news_of_block (World.alloc_heap_new w6 _)
              have al3 := (Below.refl w6.heap.size w6).alloc (Nat.le_refl _) (.cells #[.string x', .string y'] 24)
              have hsz6 := HB6.out.size
              have hm3 : w.heap.size ≤ (w6.alloc (.cells #[.string x', .string y'] 24)).heap.size := Nat.le_trans hsz6 al3.size
              have m0 := HA6.out.c0 0 rfl
              have m1 := HA6.out.c1 0 rfl
              have HL3 : Hid ((us ++ [(x', y')]).length = k + 1) := by show _ = _; rw [List.length_append, HL.out]; rfl
              go_wp2_with (at_builtin; go_loud (refine wpList_append_lies _ rfl _ _ 34 rfl w.heap.size 24 i0 (.agg #[.string ⟨#[]⟩, .string ⟨#[]⟩]) 2 32 Tryz.underlying34 hi hz0 hz1 hz2 rfl (by decide) _ us.length (pcells us) rfl hownA ⟨w6.heap.size, 0, none⟩ 1 1 [.string x', .string y'] rfl rfl hnews (by simp [Value.oneCell']) (by decide) hm1 hm2 hm3 (w6.heap.size + 1) (by simp) ?_); intro gg cap5 w7 hown5 hgrow hat hlt5)
              have HB7 : Hid (Below w.heap.size w w7) := (HB6.out.alloc hsz6 _).grown hgrow hm3 (fun z hz => (World.ownsRow.lt hownA z hz).1)
              have HO7 : Hid (Own w7 w.heap.size (.slice (some ⟨gg, 0, none⟩) (us.length + 1) cap5) (us ++ [(x', y')])) := by
                show w7.ownsRow _ _ _ _ _ _
                rw [List.length_append, pcells_append]; exact hown5
              clear hgrow hat hlt5 hown5 hownA hnews al3
              rw [HL.out] at HO7 ⊢
              have HI2 := Lib.hid (HI.out.snoc HP3.out)
              have HS2 := Lib.hid ((prodA_step HS.out HD.out.1 HD.out.2).1 HP3.out.fits)
              go_wp2
              go_roundw
              case rel => exact ⟨k + 1, _, _, by go_num, by omega, HI2, HL3, HO7, HS2, HB7⟩
              case measure => simp [intOf]; omega
            · have hz : (n' != 0) = true := by rw [bne_iff_ne]; exact hn
              have HN2 : Hid (prodA (rats ps) (rats os) = none ∧ n' = 4) := by
                rcases HR.out with ⟨_, h1⟩ | ⟨h1, _, _, h2⟩
                · exact absurd h1 hn
                · exact ⟨(prodA_step HS.out HD.out.1 HD.out.2).2 h1, h2⟩
              clear hn
              go_wp2
              go_ret2
              exact ⟨HB6.out, .inr ⟨HP.out, .inr ⟨HN2.out.1, by rw [HN2.out.2]; rfl⟩⟩⟩
        · have HE : Hid (prodA (rats ps) (rats os) = some ts) := by
            show _ = _
            rw [HS.out, List.drop_of_length_le (by rw [HQ1.out.length, HN.out.1]; omega)]; simp [prodA]
          have HK : Hid (us.length = ps.length) := by show _ = _; rw [HL.out, HN.out.1]; omega
          go_wp2
          go_ret2
          exact ⟨HB.out, .inr ⟨HP.out, .inl ⟨_, _, _, HE.out, HI.out, HK.out, HO.out.pl, rfl⟩⟩⟩
    · have hb : ((n1 : Int) != n2) = true := by rw [bne_iff_ne]; omega
      have HP : Hid (pairE ps os = 2) := by show _ = _; unfold pairE; rw [if_pos hc, if_neg (by rw [HN.out.1, HN.out.2]; exact he)]
      clear hc he
      go_enter Tryz.func78, Tryz.ntmps78
      go_wp2_with fail
      refine hL.mono ?_
      rintro e w2 ⟨rfl, hb2⟩
      have HB2 := Lib.hid hb2
      clear hL hb2
      go_wp2
      go_ret2
      exact ⟨HB2.out, .inl ⟨by rw [HP.out]; decide, by rw [HP.out]; rfl⟩⟩
  · have hz : (c != 0) = true := by rw [bne_iff_ne]; exact h0
    have HP : Hid (pairE ps os = c ∧ c ≠ 0) := ⟨by unfold pairE; rw [if_neg (by rw [hc]; exact h0), hc], h0⟩
    clear hc h0
    go_enter Tryz.func78, Tryz.ntmps78
    go_wp2_with fail
    refine hL.mono ?_
    rintro e w2 ⟨rfl, hb2⟩
    have HB2 := Lib.hid hb2
    clear hL hb2
    go_wp2
    go_ret2
    exact ⟨HB2.out, .inl ⟨by rw [HP.out.1]; exact HP.out.2, by rw [HP.out.1]; rfl⟩⟩

theorem shAll_inv {qs : List Rat} {z : Rat} (hz : sumA 0 qs = some z) : (∀ s, shAll qs = .ok s → z ≠ 0 ∧ shareA z qs = some s) ∧ (∀ n, shAll qs = .error n → (z = 0 ∧ n = 7) ∨ (z ≠ 0 ∧ shareA z qs = none ∧ n = 4)) := by
  by_cases h0 : z = 0
  · rw [shAll_z hz h0]
    exact ⟨fun s h => (nomatch h), fun n h => .inl ⟨h0, (Except.error.inj h).symm⟩⟩
  · cases h1 : shareA z qs with
    | none =>
      rw [shAll_q hz h0 h1]
      exact ⟨fun s h => (nomatch h), fun n h => .inr ⟨h0, rfl, (Except.error.inj h).symm⟩⟩
    | some t =>
      rw [shAll_ok hz h0 h1]
      exact ⟨fun s h => ⟨h0, by rw [Except.ok.inj h]⟩, fun n h => nomatch h⟩

/-- A mean, as long as each part of it fits. -/
def meanA (qs rs : List Rat) : Option Rat := match prodA qs rs with | none => none | some l => sumA 0 l
theorem meanA_n {qs rs : List Rat} (h : prodA qs rs = none) : meanA qs rs = none := by unfold meanA; rw [h]
theorem meanA_s {qs rs l : List Rat} (h : prodA qs rs = some l) : meanA qs rs = sumA 0 l := by unfold meanA; rw [h]
/-- What Mean answers. -/
def MeanOf (ps os : List PP) (w : World) (e : Ending) (w' : World) : Prop :=
  Below w.heap.size w w' ∧ ((pairE ps os ≠ 0 ∧ e = .returned (.tuple #[emptyPart, .int .i64 (pairE ps os)])) ∨
    (pairE ps os = 0 ∧ ((∃ z x y, meanA (rats ps) (rats os) = some z ∧ IsP z x y ∧ e = .returned (.tuple #[.agg #[.string x, .string y], .int .i64 0])) ∨
      (meanA (rats ps) (rats os) = none ∧ e = .returned (.tuple #[emptyPart, .int .i64 4])))))

set_option maxRecDepth 100000 in
set_option maxHeartbeats 8000000 in
theorem rmean_any {u v : Value} {ps os : List PP} {w : World} (hu : PL w u ps) (hv : PL w v os) (hsm : ps.length ≤ 512 → os.length ≤ 512 → ∀ p ∈ ps ++ os, p.1.size ≤ 1000000 ∧ p.2.size ≤ 1000000) :
    Calls Tryz.prog 27 #[u, v] w (MeanOf ps os w) := by
  obtain ⟨p1, n1, c1, rfl⟩ : ∃ p n c, u = .slice p n c := by obtain ⟨p, c, h, _⟩ := hu; exact ⟨_, _, _, h⟩
  obtain ⟨p2, n2, c2, rfl⟩ : ∃ p n c, v = .slice p n c := by obtain ⟨p, c, h, _⟩ := hv; exact ⟨_, _, _, h⟩
  have HU := Lib.hid hu
  have HV := Lib.hid hv
  have HSM := Lib.hid hsm
  clear hu hv hsm
  go_enter Tryz.func27, Tryz.ntmps27
  go_wp2_with fail
  obtain ⟨w1, hw1⟩ : ∃ w1, w.alloc (pObj ⟨#[]⟩ ⟨#[]⟩) = w1 := ⟨_, rfl⟩
  rw [hw1]
  have HX1 : Hid (Boxes w.heap.size [pObj ⟨#[]⟩ ⟨#[]⟩] w1) := by rw [← hw1]; exact Boxes.one w _
  have HB1 : Hid (Below w.heap.size w w1) := by rw [← hw1]; exact (Below.refl _ w).alloc (Nat.le_refl _) _
  clear hw1
  refine (rproducts_any (HU.out.after HB1.out (Nat.le_refl _)) (HV.out.after HB1.out (Nat.le_refl _)) HSM.out).mono ?_
  rintro e w2 ⟨hb2, hE⟩
  have HB2 := Lib.hid (HB1.out.trans (hb2.mono HB1.out.size))
  have HX2 := Lib.hid (HX1.out.below hb2 HX1.out.lt)
  clear hb2
  rcases hE with ⟨hc, rfl⟩ | ⟨hc, ⟨ts, us, vl, hp, hl, hlen, hpl, rfl⟩ | ⟨hp, rfl⟩⟩
  · obtain ⟨c, hcc⟩ : ∃ c, pairE ps os = c := ⟨_, rfl⟩
    rw [hcc] at hc ⊢
    have hz : (c != 0) = true := by rw [bne_iff_ne]; exact hc
    have HC : Hid (pairE ps os = c ∧ c ≠ 0) := ⟨hcc, hc⟩
    clear hc hcc
    have r0 := HX2.out.cell 0 0 (b := w.heap.size) rfl rfl rfl
    have r1 := HX2.out.cell 0 1 (b := w.heap.size) rfl rfl rfl
    have f0 := HX2.out.free 0 0 (b := w.heap.size) rfl rfl
    have f1 := HX2.out.free 0 1 (b := w.heap.size) rfl rfl
    go_wp2
    have q := two_put_cells (HX2.out.block 0 (b := w.heap.size) rfl rfl) (.string ⟨#[]⟩) (.string ⟨#[]⟩)
    have HBQ := Lib.hid (two_put_below HB2.out (b := w.heap.size) (by omega) (.string ⟨#[]⟩) (.string ⟨#[]⟩))
    refine bodyPost_ret (v := .tuple #[.agg #[.string ⟨#[]⟩, .string ⟨#[]⟩], .int .i64 c]) (by simp [results, Tryz.f27, go_sem, q.1, q.2]) rfl ⟨HBQ.out, ?_⟩
    exact .inl ⟨by rw [HC.out.1]; exact HC.out.2, by rw [HC.out.1]; rfl⟩
  rotate_left
  · have HC := Lib.hid hc
    have HE := Lib.hid (meanA_n hp)
    clear hc hp
    have r0 := HX2.out.cell 0 0 (b := w.heap.size) rfl rfl rfl
    have r1 := HX2.out.cell 0 1 (b := w.heap.size) rfl rfl rfl
    have f0 := HX2.out.free 0 0 (b := w.heap.size) rfl rfl
    have f1 := HX2.out.free 0 1 (b := w.heap.size) rfl rfl
    go_wp2
    have q := two_put_cells (HX2.out.block 0 (b := w.heap.size) rfl rfl) (.string ⟨#[]⟩) (.string ⟨#[]⟩)
    have HBQ := Lib.hid (two_put_below HB2.out (b := w.heap.size) (by omega) (.string ⟨#[]⟩) (.string ⟨#[]⟩))
    refine bodyPost_ret (v := .tuple #[.agg #[.string ⟨#[]⟩, .string ⟨#[]⟩], .int .i64 4]) (by simp [results, Tryz.f27, go_sem, q.1, q.2]) rfl ⟨HBQ.out, ?_⟩
    exact .inr ⟨HC.out, .inr ⟨HE.out, rfl⟩⟩
  have hps := (pairE_zero hc).1
  have HC := Lib.hid hc
  have HM := Lib.hid (meanA_s hp)
  have hrat := hl.rats
  have hch : chkL [us] = 0 := chkL_isL hl (by omega)
  have hS := rsum_any hpl (fun _ p hp => (isP_of_ok (hl.okAll p hp)).le)
  obtain ⟨p3, n3, c3, rfl⟩ : ∃ p n c, vl = .slice p n c := by obtain ⟨p, c, h, _⟩ := hpl; exact ⟨_, _, _, h⟩
  have HRT := Lib.hid hrat
  have HCH := Lib.hid hch
  clear hc hp hl hlen hpl hrat hch hps
  go_wp2_with fail
  refine hS.mono ?_
  rintro e w3 ⟨hb3, hE⟩
  have HB3 := Lib.hid (HB2.out.trans (hb3.mono HB2.out.size))
  have HX3 := Lib.hid (HX2.out.below hb3 HX2.out.lt)
  clear hS hb3
  rcases hE with ⟨hc, _⟩ | ⟨_, ⟨z, x, y, hz, hp, rfl⟩ | ⟨hz, rfl⟩⟩
  · exact absurd HCH.out hc
  · have HE : Hid (meanA (rats ps) (rats os) = some z ∧ IsP z x y) := ⟨by rw [HM.out, ← HRT.out]; exact hz, hp⟩
    clear hz hp
    have r0 := HX3.out.cell 0 0 (b := w.heap.size) rfl rfl rfl
    have r1 := HX3.out.cell 0 1 (b := w.heap.size) rfl rfl rfl
    have f0 := HX3.out.free 0 0 (b := w.heap.size) rfl rfl
    have f1 := HX3.out.free 0 1 (b := w.heap.size) rfl rfl
    go_wp2
    have q := two_put_cells (HX3.out.block 0 (b := w.heap.size) rfl rfl) (.string x) (.string y)
    have HBQ := Lib.hid (two_put_below HB3.out (b := w.heap.size) (by omega) (.string x) (.string y))
    refine bodyPost_ret (v := .tuple #[.agg #[.string x, .string y], .int .i64 0]) (by simp [results, Tryz.f27, go_sem, q.1, q.2]) rfl ⟨HBQ.out, ?_⟩
    exact .inr ⟨HC.out, .inl ⟨_, _, _, HE.out.1, HE.out.2, rfl⟩⟩
  · have HE : Hid (meanA (rats ps) (rats os) = none) := by show _ = _; rw [HM.out, ← HRT.out]; exact hz
    clear hz
    unfold emptyPart
    have r0 := HX3.out.cell 0 0 (b := w.heap.size) rfl rfl rfl
    have r1 := HX3.out.cell 0 1 (b := w.heap.size) rfl rfl rfl
    have f0 := HX3.out.free 0 0 (b := w.heap.size) rfl rfl
    have f1 := HX3.out.free 0 1 (b := w.heap.size) rfl rfl
    go_wp2
    have q := two_put_cells (HX3.out.block 0 (b := w.heap.size) rfl rfl) (.string ⟨#[]⟩) (.string ⟨#[]⟩)
    have HBQ := Lib.hid (two_put_below HB3.out (b := w.heap.size) (by omega) (.string ⟨#[]⟩) (.string ⟨#[]⟩))
    refine bodyPost_ret (v := .tuple #[.agg #[.string ⟨#[]⟩, .string ⟨#[]⟩], .int .i64 4]) (by simp [results, Tryz.f27, go_sem, q.1, q.2]) rfl ⟨HBQ.out, ?_⟩
    exact .inr ⟨HC.out, .inr ⟨HE.out, rfl⟩⟩

set_option maxRecDepth 100000 in
set_option maxHeartbeats 8000000 in
theorem rupdate_any {u v : Value} {ps os : List PP} {w : World} (hu : PL w u ps) (hv : PL w v os) (hsm : ps.length ≤ 512 → os.length ≤ 512 → ∀ p ∈ ps ++ os, p.1.size ≤ 1000000 ∧ p.2.size ≤ 1000000) :
    Calls Tryz.prog 25 #[u, v] w (UpdPost ps os w) := by
  obtain ⟨p1, n1, c1, rfl⟩ : ∃ p n c, u = .slice p n c := by obtain ⟨p, c, h, _⟩ := hu; exact ⟨_, _, _, h⟩
  obtain ⟨p2, n2, c2, rfl⟩ : ∃ p n c, v = .slice p n c := by obtain ⟨p, c, h, _⟩ := hv; exact ⟨_, _, _, h⟩
  have HU := Lib.hid hu
  have HV := Lib.hid hv
  have HSM := Lib.hid hsm
  clear hu hv hsm
  go_enter Tryz.func25, Tryz.ntmps25
  go_wp2_with fail
  obtain ⟨w1, hw1⟩ : ∃ w1, w.alloc (pObj ⟨#[]⟩ ⟨#[]⟩) = w1 := ⟨_, rfl⟩
  rw [hw1]
  have HX1 : Hid (Boxes w.heap.size [pObj ⟨#[]⟩ ⟨#[]⟩] w1) := by rw [← hw1]; exact Boxes.one w _
  have HB1 : Hid (Below w.heap.size w w1) := by rw [← hw1]; exact (Below.refl _ w).alloc (Nat.le_refl _) _
  clear hw1
  refine (rproducts_any (HU.out.after HB1.out (Nat.le_refl _)) (HV.out.after HB1.out (Nat.le_refl _)) HSM.out).mono ?_
  rintro e w2 ⟨hb2, hE⟩
  have HB2 := Lib.hid (HB1.out.trans (hb2.mono HB1.out.size))
  have HX2 := Lib.hid (HX1.out.below hb2 HX1.out.lt)
  clear hb2
  rcases hE with ⟨hc, rfl⟩ | ⟨hc, ⟨ts, us, vl, hp, hl, hlen, hpl, rfl⟩ | ⟨hp, rfl⟩⟩
  · obtain ⟨c, hcc⟩ : ∃ c, pairE ps os = c := ⟨_, rfl⟩
    rw [hcc] at hc ⊢
    have hz : (c != 0) = true := by rw [bne_iff_ne]; exact hc
    have HC : Hid (pairE ps os = c ∧ c ≠ 0) := ⟨hcc, hc⟩
    clear hc hcc
    have r0 := HX2.out.cell 0 0 (b := w.heap.size) rfl rfl rfl
    have r1 := HX2.out.cell 0 1 (b := w.heap.size) rfl rfl rfl
    have f0 := HX2.out.free 0 0 (b := w.heap.size) rfl rfl
    have f1 := HX2.out.free 0 1 (b := w.heap.size) rfl rfl
    go_wp2
    have q := two_put_cells (HX2.out.block 0 (b := w.heap.size) rfl rfl) (.string ⟨#[]⟩) (.string ⟨#[]⟩)
    have HBQ := Lib.hid (two_put_below HB2.out (b := w.heap.size) (by omega) (.string ⟨#[]⟩) (.string ⟨#[]⟩))
    refine bodyPost_ret (v := .tuple #[.slice none 0 0, .agg #[.string ⟨#[]⟩, .string ⟨#[]⟩], .int .i64 c]) (by simp [results, Tryz.f25, go_sem, q.1, q.2]) rfl ⟨HBQ.out, ?_⟩
    exact .inl ⟨by rw [HC.out.1]; exact HC.out.2, by rw [HC.out.1]; rfl⟩
  rotate_left
  · have HC := Lib.hid hc
    have HE := Lib.hid (updA_p hp)
    clear hc hp
    have r0 := HX2.out.cell 0 0 (b := w.heap.size) rfl rfl rfl
    have r1 := HX2.out.cell 0 1 (b := w.heap.size) rfl rfl rfl
    have f0 := HX2.out.free 0 0 (b := w.heap.size) rfl rfl
    have f1 := HX2.out.free 0 1 (b := w.heap.size) rfl rfl
    go_wp2
    have q := two_put_cells (HX2.out.block 0 (b := w.heap.size) rfl rfl) (.string ⟨#[]⟩) (.string ⟨#[]⟩)
    have HBQ := Lib.hid (two_put_below HB2.out (b := w.heap.size) (by omega) (.string ⟨#[]⟩) (.string ⟨#[]⟩))
    refine bodyPost_ret (v := .tuple #[.slice none 0 0, .agg #[.string ⟨#[]⟩, .string ⟨#[]⟩], .int .i64 4]) (by simp [results, Tryz.f25, go_sem, q.1, q.2]) rfl ⟨HBQ.out, ?_⟩
    exact .inr ⟨HC.out, .inr ⟨4, HE.out, rfl⟩⟩
  have hps := (pairE_zero hc).1
  have HC := Lib.hid hc
  have HPR := Lib.hid hp
  have hrat := hl.rats
  have hch : chkL [us] = 0 := chkL_isL hl (by omega)
  have HSMU : Hid (∀ p ∈ us, p.1.size ≤ 1000000 ∧ p.2.size ≤ 1000000) := fun p hp => (isP_of_ok (hl.okAll p hp)).le
  have hS := rsum_any hpl (fun _ => HSMU.out)
  have HPL := Lib.hid hpl
  obtain ⟨p3, n3, c3, rfl⟩ : ∃ p n c, vl = .slice p n c := by obtain ⟨p, c, h, _⟩ := hpl; exact ⟨_, _, _, h⟩
  have HRT := Lib.hid hrat
  have HCH := Lib.hid hch
  clear hc hp hl hlen hpl hrat hch hps
  go_wp2_with fail
  refine hS.mono ?_
  rintro e w3 ⟨hb3, hE⟩
  have HB3 := Lib.hid (HB2.out.trans (hb3.mono HB2.out.size))
  have HX3 := Lib.hid (HX2.out.below hb3 HX2.out.lt)
  have HPL3 := Lib.hid (HPL.out.after hb3 (Nat.le_refl _))
  clear hS hb3
  rcases hE with ⟨hc, _⟩ | ⟨_, ⟨z, x, y, hz, hp, rfl⟩ | ⟨hz, rfl⟩⟩
  · exact absurd HCH.out hc
  rotate_left
  · have HE : Hid (updA (rats ps) (rats os) = .error 4) := updA_s HPR.out (by rw [← HRT.out]; exact hz)
    have HX4 := Lib.hid (HX3.out.alloc (pObj ⟨#[]⟩ ⟨#[]⟩))
    have HB4 := Lib.hid (HB3.out.alloc HB3.out.size (pObj ⟨#[]⟩ ⟨#[]⟩))
    clear hz
    unfold emptyPart
    have r0 := HX4.out.cell 0 0 (b := w.heap.size) rfl rfl rfl
    have r1 := HX4.out.cell 0 1 (b := w.heap.size) rfl rfl rfl
    have f0 := HX4.out.free 0 0 (b := w.heap.size) rfl rfl
    have f1 := HX4.out.free 0 1 (b := w.heap.size) rfl rfl
    go_wp2
    have q := two_put_cells (HX4.out.block 0 (b := w.heap.size) rfl rfl) (.string ⟨#[]⟩) (.string ⟨#[]⟩)
    have HBQ := Lib.hid (two_put_below HB4.out (b := w.heap.size) (by omega) (.string ⟨#[]⟩) (.string ⟨#[]⟩))
    refine bodyPost_ret (v := .tuple #[.slice none 0 0, .agg #[.string ⟨#[]⟩, .string ⟨#[]⟩], .int .i64 4]) (by simp [results, Tryz.f25, go_sem, q.1, q.2]) rfl ⟨HBQ.out, ?_⟩
    exact .inr ⟨HC.out, .inr ⟨4, HE.out, rfl⟩⟩
  have HZ : Hid (sumA 0 ts = some z ∧ IsP z x y) := ⟨by rw [← HRT.out]; exact hz, hp⟩
  have HX4 := Lib.hid (HX3.out.alloc (pObj x y))
  have HB4 := Lib.hid (HB3.out.alloc HB3.out.size (pObj x y))
  have HA4 := Lib.hid ((Ats.nil w3).push x y)
  have HPL4 := Lib.hid (HPL3.out.after ((Below.refl _ w3).alloc (Nat.le_refl _) (pObj x y)) (Nat.le_refl _))
  have hSh := rshare_own HPL4.out (fun _ => HSMU.out)
  clear hz hp
  go_wp2_with fail
  refine hSh.mono ?_
  rintro e w5 ⟨hb5, hE⟩
  have HB5 := Lib.hid (HB4.out.trans (hb5.mono HB4.out.size))
  have HX5 := Lib.hid (HX4.out.below hb5 HX4.out.lt)
  have HA5 := Lib.hid (HA4.out.after hb5 (Nat.le_refl _))
  clear hSh hb5
  rcases hE with ⟨hc, _⟩ | ⟨_, ⟨s, us2, vs, h1, h2, h3, rfl⟩ | ⟨n, h1, rfl⟩⟩
  · exact absurd HCH.out hc
  · have HE : Hid (updA (rats ps) (rats os) = .ok (s, z)) := by
      rw [HRT.out] at h1
      obtain ⟨g1, g2⟩ := (shAll_inv HZ.out.1).1 s h1
      exact updA_ok HPR.out HZ.out.1 g1 g2
    have HIL := Lib.hid h2
    have HPS := Lib.hid h3
    obtain ⟨p4, n4, c4, rfl⟩ : ∃ p n c, vs = .slice p n c := by obtain ⟨p, c, h, _⟩ := h3.pl; exact ⟨_, _, _, h⟩
    clear h1 h2 h3
    have m0 := HA5.out.c0 0 rfl
    have m1 := HA5.out.c1 0 rfl
    have r0 := HX5.out.cell 0 0 (b := w.heap.size) rfl rfl rfl
    have r1 := HX5.out.cell 0 1 (b := w.heap.size) rfl rfl rfl
    have f0 := HX5.out.free 0 0 (b := w.heap.size) rfl rfl
    have f1 := HX5.out.free 0 1 (b := w.heap.size) rfl rfl
    go_wp2_with fail
    go_region
    all_goals go_wp2
    have q := two_put_cells (HX5.out.block 0 (b := w.heap.size) rfl rfl) (.string x) (.string y)
    have HBQ := Lib.hid (two_put_below HB5.out (b := w.heap.size) (by omega) (.string x) (.string y)).drew
    have q1 := q.1
    have q2 := q.2
    refine bodyPost_ret (v := .tuple #[.slice p4 n4 c4, .agg #[.string x, .string y], .int .i64 0]) (by simp [results, Tryz.f25, go_sem, q1, q2]) rfl ⟨HBQ.out, ?_⟩
    have HPQ := Lib.hid (HPS.out.kept (w' := (w5.setCell ⟨w.heap.size, 0, none⟩ (.string x)).setCell ⟨w.heap.size, 1, none⟩ (.string y)) fun g hg _ => by
      have h1 := HB3.out.size
      simp at hg
      exact (Below.heap_setCell _ ⟨w.heap.size, 1, none⟩ _ _ (by simp; omega)).trans (Below.heap_setCell _ ⟨w.heap.size, 0, none⟩ _ _ (by simp; omega)))
    exact .inr ⟨HC.out, .inl ⟨_, _, _, _, _, _, HE.out, HIL.out, HZ.out.2, HPQ.out.pl.after ((Below.refl _ _).drew) (Nat.le_refl _), rfl⟩⟩
  · have HE : Hid (updA (rats ps) (rats os) = .error n ∧ n ≠ 0) := by
      rw [HRT.out] at h1
      rcases (shAll_inv HZ.out.1).2 n h1 with ⟨g1, rfl⟩ | ⟨g1, g2, rfl⟩
      · exact ⟨updA_z HPR.out HZ.out.1 g1, by decide⟩
      · exact ⟨updA_q HPR.out HZ.out.1 g1 g2, by decide⟩
    have hz : (n != 0) = true := by rw [bne_iff_ne]; exact HE.out.2
    clear h1
    have r0 := HX5.out.cell 0 0 (b := w.heap.size) rfl rfl rfl
    have r1 := HX5.out.cell 0 1 (b := w.heap.size) rfl rfl rfl
    have f0 := HX5.out.free 0 0 (b := w.heap.size) rfl rfl
    have f1 := HX5.out.free 0 1 (b := w.heap.size) rfl rfl
    go_wp2
    have q := two_put_cells (HX5.out.block 0 (b := w.heap.size) rfl rfl) (.string ⟨#[]⟩) (.string ⟨#[]⟩)
    have HBQ := Lib.hid (two_put_below HB5.out (b := w.heap.size) (by omega) (.string ⟨#[]⟩) (.string ⟨#[]⟩))
    refine bodyPost_ret (v := .tuple #[.slice none 0 0, .agg #[.string ⟨#[]⟩, .string ⟨#[]⟩], .int .i64 n]) (by simp [results, Tryz.f25, go_sem, q.1, q.2]) rfl ⟨HBQ.out, ?_⟩
    exact .inr ⟨HC.out, .inr ⟨n, HE.out.1, rfl⟩⟩
end Go.Proofs.YthbpadjhlkdpeaaGreatDoor
