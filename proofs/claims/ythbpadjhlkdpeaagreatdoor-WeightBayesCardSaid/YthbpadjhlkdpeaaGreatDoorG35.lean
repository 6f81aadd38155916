/- The parts LawBayes of a proof, put together by program (merge.py). -/
import Derived.Test.YthbpadjhlkdpeaaGreatDoorG34
/- WeightBayes' walk. -/
namespace Go.Proofs.YthbpadjhlkdpeaaGreatDoor
open Go.RowKit Go.Shelf
/-- An update that succeeds, one that does not. -/
theorem UpdPost.done {ps os : List PP} {w w' : World} {e : Ending} {s : List Rat} {z : Rat} (h : UpdPost ps os w e w') (hc : pairE ps os = 0) (hu : updA (rats ps) (rats os) = .ok (s, z)) :
    Below w.heap.size w w' ∧ ∃ us v x y, IsL s us ∧ IsP z x y ∧ PL w' v us ∧ e = .returned (.tuple #[v, .agg #[.string x, .string y], .int .i64 0]) := by
  refine ⟨h.1, ?_⟩
  rcases h.2 with ⟨h1, _⟩ | ⟨_, ⟨s', z', us, v, x, y, h1, h2, h3, h4, h5⟩ | ⟨n, h1, _⟩⟩
  · exact absurd hc h1
  · rw [hu] at h1
    have h6 := Except.ok.inj h1
    obtain ⟨rfl, rfl⟩ : s = s' ∧ z = z' := by simpa using h6
    exact ⟨us, v, x, y, h2, h3, h4, h5⟩
  · rw [hu] at h1; cases h1
theorem UpdPost.none {ps os : List PP} {w w' : World} {e : Ending} {n : Int} (h : UpdPost ps os w e w') (hc : pairE ps os = 0) (hu : updA (rats ps) (rats os) = .error n) :
    Below w.heap.size w w' ∧ e = .returned (.tuple #[.slice none 0 0, .agg #[.string ⟨#[]⟩, .string ⟨#[]⟩], .int .i64 n]) := by
  refine ⟨h.1, ?_⟩
  rcases h.2 with ⟨h1, _⟩ | ⟨_, ⟨s', z', us, v, x, y, h1, h2, h3, h4, h5⟩ | ⟨n', h1, h5⟩⟩
  · exact absurd hc h1
  · rw [hu] at h1; cases h1
  · rw [hu] at h1
    rw [h5, Except.error.inj h1]; rfl
theorem pairE_isL {L M : List Rat} {ps os : List PP} (h1 : IsL L ps) (h2 : IsL M os) (hl : ps.length ≤ 512) (he : ps.length = os.length) : pairE ps os = 0 := by
  unfold pairE
  rw [if_pos, if_pos he]
  refine chkL_ok (fun l hm => ?_) fun l hm => ?_
  · rcases List.mem_cons.1 hm with rfl | hm
    · exact hl
    · obtain rfl : l = os := by simpa using hm
      omega
  · rcases List.mem_cons.1 hm with rfl | hm
    · exact h1.okAll
    · obtain rfl : l = os := by simpa using hm
      exact h2.okAll
theorem isL_le {L M : List Rat} {ps os : List PP} (h1 : IsL L ps) (h2 : IsL M os) : ∀ p ∈ ps ++ os, p.1.size ≤ 1000000 ∧ p.2.size ≤ 1000000 := fun p hp => by
  rcases List.mem_append.1 hp with hp | hp
  · exact (isP_of_ok (h1.okAll p hp)).le
  · exact (isP_of_ok (h2.okAll p hp)).le
theorem upd_ok {u v : Value} {ps os : List PP} {L M s : List Rat} {z : Rat} {n : Nat} {w : World} (hu : PL w u ps) (hv : PL w v os) (h1 : IsL L ps) (h2 : IsL M os) (hn : L.length = n) (hm : M.length = n) (h6 : n ≤ 6) (hT : Tabs w)
    (hup : updA L M = .ok (s, z)) (hs : s.length = n) : Calls Tryz.prog 24 #[u, v] w fun e w' => Below w.heap.size w w' ∧ ∃ p c x y, IsL s (usOf s) ∧ IsP z x y ∧ PL w' (.slice p n c) (usOf s) ∧ e = .returned (.tuple #[.slice p n c, .agg #[.string x, .string y], .int .i64 0]) := by
  have e1 := h1.length
  have e2 := h2.length
  refine (update_any hu hv (fun _ _ => isL_le h1 h2) hT).mono ?_
  intro e w' hE
  obtain ⟨hb, us, v', x, y, g1, g2, g3, g4⟩ := hE.done (pairE_isL h1 h2 (by omega) (by omega)) (by rw [h1.rats, h2.rats]; exact hup)
  obtain rfl := g1.us
  obtain ⟨p, c, rfl, _⟩ := id g3
  have e3 : (usOf s).length = s.length := by simp [usOf]
  rw [e3, hs] at g3 g4
  exact ⟨hb, p, c, x, y, g1, g2, g3, g4⟩
theorem upd_no {u v : Value} {ps os : List PP} {L M : List Rat} {m : Int} {n : Nat} {w : World} (hu : PL w u ps) (hv : PL w v os) (h1 : IsL L ps) (h2 : IsL M os) (hn : L.length = n) (hm : M.length = n) (h6 : n ≤ 6) (hT : Tabs w)
    (hup : updA L M = .error m) : Calls Tryz.prog 24 #[u, v] w fun e w' => Below w.heap.size w w' ∧ e = .returned (.tuple #[.slice none 0 0, .agg #[.string ⟨#[]⟩, .string ⟨#[]⟩], .int .i64 m]) := by
  have e1 := h1.length
  have e2 := h2.length
  refine (update_any hu hv (fun _ _ => isL_le h1 h2) hT).mono ?_
  intro e w' hE
  exact hE.none (pairE_isL h1 h2 (by omega) (by omega)) (by rw [h1.rats, h2.rats]; exact hup)
theorem str_no49 {c : ByteArray} (h : ¬ c = ⟨#[49]⟩) : (c.toList == [49]) = false := by
  rw [beq_eq_false_iff_ne]
  refine fun h2 => h ?_
  rw [ByteArray.toList_eq] at h2
  rw [← str_eq c, h2]; rfl
theorem mulL_step {os qs : List PP} {k : Nat} (h1 : k < os.length) (h2 : k < qs.length) : (mulL (rats os) (rats qs)).take (k + 1) = (mulL (rats os) (rats qs)).take k ++ [ratP os[k].1 os[k].2 * ratP qs[k].1 qs[k].2] := by
  rw [List.take_add_one]
  congr 1
  have h : k < (mulL (rats os) (rats qs)).length := by simp [mulL, rats]; omega
  rw [List.getElem?_eq_getElem h]
  simp [mulL, rats]

set_option maxRecDepth 100000 in
set_option maxHeartbeats 8000000 in
theorem bayes_main {u v t : Value} {ps os qs : List PP} {w : World} (hu : PL w u ps) (hv : PL w v os) (ht : PL w t qs) (hT : Tabs w)
    (h6 : ps.length ≤ 6) (e1 : os.length = ps.length) (e2 : qs.length = ps.length) (s0 : shortB 12 ps = true) (s1 : shortB 12 os = true) (s2 : shortB 12 qs = true) :
    Calls Tryz.prog 5 #[u, v, t] w (BoolPost w true) := by
  obtain ⟨i0, hi, hz0, hz1, hz2⟩ := info_parts info_part
  obtain ⟨p0, n, c0, rfl⟩ : ∃ p n c, u = .slice p n c := by obtain ⟨p, c, h, _⟩ := hu; exact ⟨_, _, _, h⟩
  obtain ⟨p1, n1, c1, rfl⟩ : ∃ p n c, v = .slice p n c := by obtain ⟨p, c, h, _⟩ := hv; exact ⟨_, _, _, h⟩
  obtain ⟨p2, n2, c2, rfl⟩ : ∃ p n c, t = .slice p n c := by obtain ⟨p, c, h, _⟩ := ht; exact ⟨_, _, _, h⟩
  obtain ⟨hn0, _, _⟩ := hu.len
  obtain ⟨hn1, _, _⟩ := hv.len
  obtain ⟨hn2, _, _⟩ := ht.len
  have HU := Lib.hid hu
  have HV := Lib.hid hv
  have HW := Lib.hid ht
  have HT := Lib.hid hT
  clear hT
  obtain rfl : n1 = n := by omega
  obtain rfl : n2 = n1 := by omega
  obtain ⟨n, rfl⟩ : ∃ n, n = n2 := ⟨_, rfl⟩
  rw [hn0] at h6
  rw [hn0] at e1 e2
  have k0 := shortB_iff.1 s0
  have k1 := shortB_iff.1 s1
  have k2 := shortB_iff.1 s2
  have HN := Lib.hid (show ps.length = n ∧ os.length = n ∧ qs.length = n from ⟨hn0, e1, e2⟩)
  have HK := Lib.hid (show (∀ p ∈ ps, p.1.size ≤ 12 ∧ p.2.size ≤ 12) ∧ (∀ p ∈ os, p.1.size ≤ 12 ∧ p.2.size ≤ 12) ∧ (∀ p ∈ qs, p.1.size ≤ 12 ∧ p.2.size ≤ 12) from ⟨k0, k1, k2⟩)
  have HS0 := Lib.hid s0
  have HS1 := Lib.hid s1
  have HS2 := Lib.hid s2
  have g6 : ¬ (6 : Int) < n := by omega
  have g6d : decide ((6 : Int) < n) = false := decide_eq_false g6
  have g1 : ((n : Int) != n) = false := by simp
  clear hu hv ht hn0 hn1 hn2 e1 e2 k0 k1 k2 s0 s1 s2
  go_enter Tryz.func5, Tryz.ntmps5
  go_wp2_with fail
  refine (alive_any _ HT.out).mono ?_
  rintro e w1 ⟨rfl, hb⟩
  have HB1 := Lib.hid hb
  clear hb
  go_wp2_with fail
  refine (short_any 12 (by decide) (HU.out.after HB1.out (Nat.le_refl _))).mono ?_
  rintro e w2 ⟨rfl, hb⟩
  rw [HS0.out]
  have HB2 := Lib.hid (HB1.out.trans (hb.mono HB1.out.size))
  clear hb HB1
  go_wp2_with fail
  refine (short_any 12 (by decide) (HV.out.after HB2.out (Nat.le_refl _))).mono ?_
  rintro e w3 ⟨rfl, hb⟩
  rw [HS1.out]
  have HB3 := Lib.hid (HB2.out.trans (hb.mono HB2.out.size))
  clear hb HB2
  go_wp2_with fail
  refine (short_any 12 (by decide) (HW.out.after HB3.out (Nat.le_refl _))).mono ?_
  rintro e w4 ⟨rfl, hb⟩
  rw [HS2.out]
  have HB4 := Lib.hid (HB3.out.trans (hb.mono HB3.out.size))
  clear hb HB3
  go_wp2_with fail
  refine (sumOf_any (HU.out.after HB4.out (Nat.le_refl _)) (fun _ q hq => by have := HK.out.1 q hq; omega) (HT.out.below HB4.out (Nat.le_refl _))).mono ?_
  rintro e w5 ⟨hb5, hE⟩
  have HB5 := Lib.hid (HB4.out.trans (hb5.mono HB4.out.size))
  clear hb5
  rcases hE with ⟨hc, rfl⟩ | ⟨hc, ⟨z, x, y, h1, h2, rfl⟩ | ⟨h1, rfl⟩⟩
  · have HC : Hid (chkL [ps] = 2) := chkL_two hc (by rw [HN.out.1]; omega)
    have HB6 := Lib.hid (HB5.out.alloc HB5.out.size (pObj ⟨#[]⟩ ⟨#[]⟩))
    clear hc
    rw [HC.out]
    unfold emptyPart
    go_wp2_with fail
    go_region
    all_goals
      go_wp2
      go_ret
      first | exact ⟨rfl, HB6.out⟩ | exact ⟨rfl, HB6.out.drew⟩
  rotate_left
  · have HB6 := Lib.hid (HB5.out.alloc HB5.out.size (pObj ⟨#[]⟩ ⟨#[]⟩))
    clear hc h1
    unfold emptyPart
    go_wp2_with fail
    go_region
    all_goals
      go_wp2
      go_ret
      first | exact ⟨rfl, HB6.out⟩ | exact ⟨rfl, HB6.out.drew⟩
  have HA6 := Lib.hid ((Ats.nil w5).push x y)
  have HB6 := Lib.hid (HB5.out.alloc HB5.out.size (pObj x y))
  obtain ⟨_, hok⟩ := chkL_one hc
  have HOK := Lib.hid hok
  clear hc h1 h2 hok
  have HS : Hid (∀ w', Below (w5.alloc (pObj x y)).heap.size (w5.alloc (pObj x y)) w' → w'.cell? ⟨w5.heap.size, 0, none⟩ = some (.string x) ∧ w'.cell? ⟨w5.heap.size, 1, none⟩ = some (.string y)) := fun w' hb => by
    have h1 := HA6.out.after hb (Nat.le_refl _)
    exact ⟨h1.c0 0 rfl, h1.c1 0 rfl⟩
  obtain ⟨k1, k2⟩ := HS.out _ (Below.refl _ _)
  by_cases hx : x = ⟨#[49]⟩
  rotate_left
  · have hx2 : (x.toList == [49]) = false := str_no49 hx
    go_wp2_with fail
    go_region_held3
      (fun w' => w'.cell? ⟨w5.heap.size, 0, none⟩ = some (.string x) ∧ w'.cell? ⟨w5.heap.size, 1, none⟩ = some (.string y))
      (first | exact ⟨k1, k2⟩ | exact HK9.out)
      (first
        | (go_at_call 30; refine (of_11 _ (HT.out.below HB6.out.drew (Nat.le_refl _))).mono ?_; rintro e w9 ⟨rfl, hb⟩; have HX9 : Hid (Below (w5.alloc (pObj x y)).heap.size (w5.alloc (pObj x y)) w9) := ((Below.refl (w5.alloc (pObj x y)).heap.size (w5.alloc (pObj x y))).drew).trans hb; have HK9 := Lib.hid (HS.out w9 HX9.out); clear hb))
    clear k1 k2
    go_wp2
    go_ret
    exact ⟨rfl, HB6.out.trans (HX9.out.mono HB6.out.size)⟩
  subst hx
  by_cases hy : y = ⟨#[49]⟩
  rotate_left
  · have hy2 : (y.toList == [49]) = false := str_no49 hy
    go_wp2_with fail
    go_region_held3
      (fun w' => w'.cell? ⟨w5.heap.size, 0, none⟩ = some (.string ⟨#[49]⟩) ∧ w'.cell? ⟨w5.heap.size, 1, none⟩ = some (.string y))
      (first | exact ⟨k1, k2⟩ | exact HK9.out)
      (first
        | (go_at_call 30; refine (of_11 _ (HT.out.below HB6.out.drew (Nat.le_refl _))).mono ?_; rintro e w9 ⟨rfl, hb⟩; have HX9 : Hid (Below (w5.alloc (pObj ⟨#[49]⟩ y)).heap.size (w5.alloc (pObj ⟨#[49]⟩ y)) w9) := ((Below.refl (w5.alloc (pObj ⟨#[49]⟩ y)).heap.size (w5.alloc (pObj ⟨#[49]⟩ y))).drew).trans hb; have HK9 := Lib.hid (HS.out w9 HX9.out); clear hb))
    clear k1 k2
    go_wp2
    go_ret
    exact ⟨rfl, HB6.out.trans (HX9.out.mono HB6.out.size)⟩
  subst hy
  go_wp2_with fail
  go_region_held3
    (fun w' => w'.cell? ⟨w5.heap.size, 0, none⟩ = some (.string ⟨#[49]⟩) ∧ w'.cell? ⟨w5.heap.size, 1, none⟩ = some (.string ⟨#[49]⟩))
    (first | exact ⟨k1, k2⟩ | exact HK9.out)
    (first
      | (go_at_call 30; refine (of_11 _ (HT.out.below HB6.out.drew (Nat.le_refl _))).mono ?_; rintro e w9 ⟨rfl, hb⟩; have HX9 : Hid (Below (w5.alloc (pObj ⟨#[49]⟩ ⟨#[49]⟩)).heap.size (w5.alloc (pObj ⟨#[49]⟩ ⟨#[49]⟩)) w9) := ((Below.refl (w5.alloc (pObj ⟨#[49]⟩ ⟨#[49]⟩)).heap.size (w5.alloc (pObj ⟨#[49]⟩ ⟨#[49]⟩))).drew).trans hb; have HK9 := Lib.hid (HS.out w9 HX9.out); clear hb))
  clear k1 k2
  have HB9 := Lib.hid (HB6.out.trans (HX9.out.mono HB6.out.size))
  clear HX9 HK9 HS HA6 HB6 HB5 HB4
  go_wp2
  go_loopw [10, 86] (fun vo vi wr => ∃ (k : Nat) (ts : List Rat) (us : List PP), vi = .int .i64 k ∧ k ≤ n ∧ Hid (IsL ts us) ∧ Hid (us.length = k) ∧ Hid (Own wr w.heap.size vo us) ∧ Hid (ts = (mulL (rats os) (rats qs)).take k ∧ (∀ p ∈ os.take k, okP p.1 p.2 = true) ∧ ∀ p ∈ qs.take k, okP p.1 p.2 = true) ∧ Hid (Below w.heap.size w wr)) (fun _ vi _ => n - (intOf vi).toNat)
  case atStart => exact ⟨0, [], [], rfl, Nat.zero_le _, IsL.nil, rfl, Own.nil _ _, ⟨by simp, fun p hp => by simp at hp, fun p hp => by simp at hp⟩, HB9⟩
  case round =>
  clear HB9
  obtain ⟨k, ts, us, rfl, hk, HI, HL, HO, HS, HB⟩ := hrel
  obtain ⟨wy, rfl⟩ : ∃ wy : World, wy = wr := ⟨_, rfl⟩
  obtain ⟨po, no, co, rfl⟩ : ∃ p n c, u10 = .slice p n c := by
    rcases HO.out.2 with ⟨h, _⟩ | ⟨g, cap, cur, h, _⟩
    · exact ⟨_, _, _, h⟩
    · exact ⟨_, _, _, h⟩
  by_cases hlt : k < n
  · have hkp : k < os.length := by rw [HN.out.2.1]; exact hlt
    have hkq : k < qs.length := by rw [HN.out.2.2]; exact hlt
    obtain ⟨bb, off, rfl, hbl, hat⟩ := HV.out.at1 hkp
    obtain ⟨b2, off2, rfl, hbl2, hat2⟩ := HW.out.at1 hkq
    obtain ⟨s, hs⟩ : ∃ u, os[k].1 = u := ⟨_, rfl⟩
    obtain ⟨t, ht⟩ : ∃ v, os[k].2 = v := ⟨_, rfl⟩
    obtain ⟨s2, hs2⟩ : ∃ u, qs[k].1 = u := ⟨_, rfl⟩
    obtain ⟨t2, ht2⟩ : ∃ v, qs[k].2 = v := ⟨_, rfl⟩
    have hz4 := HK.out.2.1 os[k] (List.getElem_mem hkp)
    have hz5 := HK.out.2.2 qs[k] (List.getElem_mem hkq)
    rw [hs, ht] at hz4
    rw [hs2, ht2] at hz5
    have HZ4 : Hid (s.size ≤ 1000000 ∧ t.size ≤ 1000000 ∧ s2.size ≤ 1000000 ∧ t2.size ≤ 1000000) := ⟨by omega, by omega, by omega, by omega⟩
    have HD : Hid ((mulL (rats os) (rats qs)).take (k + 1) = (mulL (rats os) (rats qs)).take k ++ [ratP s t * ratP s2 t2]) := by rw [← hs, ← ht, ← hs2, ← ht2]; exact mulL_step hkp hkq
    have HE : Hid (os.take (k + 1) = os.take k ++ [(s, t)] ∧ qs.take (k + 1) = qs.take k ++ [(s2, t2)]) := by
      rw [← hs, ← ht, ← hs2, ← ht2]
      exact ⟨List.take_succ_eq_append_getElem hkp, List.take_succ_eq_append_getElem hkq⟩
    have HKS : Hid (∀ w', Below wy.heap.size wy w' → w'.cell? ⟨bb, off + k * 2, none⟩ = some (.string s) ∧ w'.cell? ⟨bb, off + k * 2 + 1, none⟩ = some (.string t) ∧ w'.cell? ⟨b2, off2 + k * 2, none⟩ = some (.string s2) ∧ w'.cell? ⟨b2, off2 + k * 2 + 1, none⟩ = some (.string t2)) := fun w' hb => by
      have h1 := hat w' (HB.out.trans (hb.mono HB.out.size))
      have h2 := hat2 w' (HB.out.trans (hb.mono HB.out.size))
      rw [hs, ht] at h1
      rw [hs2, ht2] at h2
      exact ⟨h1.1, h1.2, h2.1, h2.2⟩
    have i0' : (0 : Int) ≤ (k : Int) := by omega
    have i1' : (k : Int) < (n : Int) := by omega
    have HAT := Lib.hid (Ats.nil wy)
    have HT9 := Lib.hid (HT.out.below HB.out (Nat.le_refl _))
    clear hat hs ht hkp hat2 hs2 ht2 hkq hz4 hz5
    have HK0 := Lib.hid (HKS.out wy (Below.refl _ wy))
    obtain ⟨k1, k2, k3, k4⟩ := HK0.out
    have HOZ : Hid (Boxes wy.heap.size [pObj ⟨#[]⟩ ⟨#[]⟩] (wy.alloc (pObj ⟨#[]⟩ ⟨#[]⟩))) := Boxes.one wy _
    have HZ : Hid (Below wy.heap.size wy (wy.alloc (pObj ⟨#[]⟩ ⟨#[]⟩))) := (Below.refl _ wy).alloc (Nat.le_refl _) _
    have HKA := Lib.hid (HKS.out _ HZ.out)
    go_wp2_with fail
    go_region_held3
      (fun w' => w'.cell? ⟨bb, off + k * 2, none⟩ = some (.string s) ∧ w'.cell? ⟨bb, off + k * 2 + 1, none⟩ = some (.string t) ∧ w'.cell? ⟨b2, off2 + k * 2, none⟩ = some (.string s2) ∧ w'.cell? ⟨b2, off2 + k * 2 + 1, none⟩ = some (.string t2))
      (first | exact ⟨k1, k2, k3, k4⟩ | exact HKA.out | exact HK5.out | exact HK6.out | exact HK7.out | exact HK8.out)
      (first
        | (go_at_call 18; refine (mul_rat s t s2 t2 _ HZ4.out.1 HZ4.out.2.1 HZ4.out.2.2.1 HZ4.out.2.2.2 (HT9.out.below (Below.refl wy.heap.size wy).drew (Nat.le_refl _))).mono ?_; rintro e w5 ⟨x', y', n', rfl, hR, hb⟩; have HR := Lib.hid hR; have HX5 : Hid (Below wy.heap.size wy w5) := ((Below.refl wy.heap.size wy).drew).trans hb; have HK5 := Lib.hid (HKS.out w5 HX5.out); have HK6 := Lib.hid (HKS.out _ (HX5.out.alloc HX5.out.size (pObj ⟨#[]⟩ ⟨#[]⟩))); have HK7 := Lib.hid (HKS.out _ (HX5.out.alloc HX5.out.size (pObj x' y'))); clear hb hR)
        | (go_at_call 18; refine (mul_rat s t s2 t2 _ HZ4.out.1 HZ4.out.2.1 HZ4.out.2.2.1 HZ4.out.2.2.2 (HT9.out.below HZ.out.drew (Nat.le_refl _))).mono ?_; rintro e w5 ⟨x', y', n', rfl, hR, hb⟩; have HR := Lib.hid hR; have HX5 : Hid (Below wy.heap.size wy w5) := HZ.out.drew.trans (hb.mono HZ.out.size); have HOB := Lib.hid (HOZ.out.drew.below hb HOZ.out.lt); have r0 := HOB.out.cell 0 0 (b := wy.heap.size) rfl rfl rfl; have r1 := HOB.out.cell 0 1 (b := wy.heap.size) rfl rfl rfl; have f0 := HOB.out.free 0 0 (b := wy.heap.size) rfl rfl; have f1 := HOB.out.free 0 1 (b := wy.heap.size) rfl rfl; have HK5 := Lib.hid (HKS.out w5 HX5.out); have HK7 := Lib.hid (HKS.out _ ((HX5.out.setCell (p := ⟨wy.heap.size, 0, none⟩) (Nat.le_refl _) (.string x')))); have HK8 := Lib.hid (HKS.out _ ((HX5.out.setCell (p := ⟨wy.heap.size, 0, none⟩) (Nat.le_refl _) (.string x')).setCell (p := ⟨wy.heap.size, 1, none⟩) (Nat.le_refl _) (.string y'))); clear hb hR))
    clear k1 k2 k3 k4
    all_goals
      first
        | (obtain ⟨w6, hW6⟩ : ∃ w6, w5.alloc (pObj x' y') = w6 := ⟨_, rfl⟩
           rw [hW6]
           have HX6 : Hid (Below wy.heap.size wy w6) := by rw [← hW6]; exact HX5.out.alloc HX5.out.size _
           have HA6 : Hid (Ats [(w5.heap.size, x', y')] w6) := by rw [← hW6]; exact (HAT.out.after HX5.out (Nat.le_refl _)).push x' y'
           obtain ⟨g6, hg6⟩ : ∃ g6, w5.heap.size = g6 := ⟨_, rfl⟩
           rw [hg6] at HA6 ⊢
           clear hW6 hg6 HK5 HK6 HK7 HX5)
        | (obtain ⟨w6, hW6⟩ : ∃ w6, (w5.setCell ⟨wy.heap.size, 0, none⟩ (.string x')).setCell ⟨wy.heap.size, 1, none⟩ (.string y') = w6 := ⟨_, rfl⟩
           rw [hW6]
           have HX6 : Hid (Below wy.heap.size wy w6) := by rw [← hW6]; exact (HX5.out.setCell (p := ⟨wy.heap.size, 0, none⟩) (Nat.le_refl _) (.string x')).setCell (p := ⟨wy.heap.size, 1, none⟩) (Nat.le_refl _) (.string y')
           have HA6 : Hid (Ats [(wy.heap.size, x', y')] w6) := by rw [← hW6]; exact (HAT.out.after HX5.out (Nat.le_refl _)).put (HOB.out.block 0 rfl rfl) (fun i p hp => Nat.ne_of_lt (HAT.out.lt i hp)) x' y'
           obtain ⟨g6, hg6⟩ : ∃ g6, wy.heap.size = g6 := ⟨_, rfl⟩
           rw [hg6] at HA6 ⊢
           clear hW6 hg6 HK5 HK7 HK8 HX5 HOB r0 r1 f0 f1)
      have HB6 : Hid (Below w.heap.size w w6) := HB.out.trans (HX6.out.mono HB.out.size)
      have HO6 : Hid (Own w6 w.heap.size (.slice po no co) us) := HO.out.after HX6.out
      by_cases hn : n' = 0
      · have hz : (n' != 0) = false := by rw [bne_eq_false_iff_eq]; exact hn
        have HP3 : Hid (okP s t = true ∧ okP s2 t2 = true ∧ IsP (ratP s t * ratP s2 t2) x' y') := by
          rcases HR.out with ⟨_, _, _, h⟩ | ⟨h1, h2⟩
          · omega
          · have h3 := Bool.and_eq_true_iff.1 h1
            exact ⟨h3.1, h3.2, h2.zero hn⟩
        clear hn
        have hm1 : us.length + 1 ≤ maxLen := by rw [HL.out]; unfold maxLen; omega
        have hm2 : (us.length + 1) * 32 ≤ 140737488355328 := by rw [HL.out]; omega
        have hownA : (w6.alloc (.cells #[.string x', .string y'] 24)).ownsRow w.heap.size 24 2 (.slice po no co) us.length (pcells us) := World.ownsRow.alloc HO6.out _
        have hnews : ∀ (j : Nat) (z : Value), ([.string x', .string y'] : List Value)[j]? = some z → (w6.alloc (.cells #[.string x', .string y'] 24)).cell? ((⟨w6.heap.size, 0, none⟩ : Addr).add j) = some z := World.news_of_block (World.alloc_heap_new w6 _)
        have al3 := (Below.refl w6.heap.size w6).alloc (Nat.le_refl _) (.cells #[.string x', .string y'] 24)
        have hsz6 := HB6.out.size
        have hm3 : w.heap.size ≤ (w6.alloc (.cells #[.string x', .string y'] 24)).heap.size := Nat.le_trans hsz6 al3.size
        have m0 := HA6.out.c0 0 rfl
        have m1 := HA6.out.c1 0 rfl
        have HL3 : Hid ((us ++ [(x', y')]).length = k + 1) := by show _ = _; rw [List.length_append, HL.out]; rfl
        go_wp2_with (at_builtin; go_loud (refine wpList_append_lies _ rfl _ _ 34 rfl w.heap.size 24 i0 (.agg #[.string ⟨#[]⟩, .string ⟨#[]⟩]) 2 32 Tryz.underlying34 hi hz0 hz1 hz2 rfl (by decide) _ us.length (pcells us) rfl hownA ⟨w6.heap.size, 0, none⟩ 1 1 [.string x', .string y'] rfl rfl hnews (by simp [Value.oneCell']) (by decide) hm1 hm2 hm3 (w6.heap.size + 1) (by simp) ?_); intro gg cap5 w7 hown5 hgrow hat hlt5)
        have HB7 : Hid (Below w.heap.size w w7) := (HB6.out.alloc hsz6 _).grown hgrow hm3 (fun z hz => (World.ownsRow.lt hownA z hz).1)
        have HO7 : Hid (Own w7 w.heap.size (.slice (some ⟨gg, 0, none⟩) (us.length + 1) cap5) (us ++ [(x', y')])) := by
          show w7.ownsRow _ _ _ _ _ _
          rw [List.length_append, pcells_append]; exact hown5
        clear hgrow hat hlt5 hown5 hownA hnews al3
        rw [HL.out] at HO7 ⊢
        have HI2 := Lib.hid (HI.out.snoc HP3.out.2.2)
        have HS2 : Hid (ts ++ [ratP s t * ratP s2 t2] = (mulL (rats os) (rats qs)).take (k + 1) ∧ (∀ p ∈ os.take (k + 1), okP p.1 p.2 = true) ∧ ∀ p ∈ qs.take (k + 1), okP p.1 p.2 = true) := by
          refine ⟨by rw [HD.out, HS.out.1], fun p hp => ?_, fun p hp => ?_⟩
          · rw [HE.out.1] at hp
            rcases List.mem_append.1 hp with hp | hp
            · exact HS.out.2.1 p hp
            · obtain rfl : p = (s, t) := by simpa using hp
              exact HP3.out.1
          · rw [HE.out.2] at hp
            rcases List.mem_append.1 hp with hp | hp
            · exact HS.out.2.2 p hp
            · obtain rfl : p = (s2, t2) := by simpa using hp
              exact HP3.out.2.1
        go_wp2
        go_roundw
        case rel => exact ⟨k + 1, _, _, by go_num, by omega, HI2, HL3, HO7, HS2, HB7⟩
        case measure => simp [intOf]; omega
      · have hz : (n' != 0) = true := by rw [bne_iff_ne]; exact hn
        clear hn
        go_wp2
        go_ret
        exact ⟨rfl, HB6.out⟩
  · obtain rfl : k = n := by omega
    obtain ⟨P, hP⟩ : ∃ P, rats ps = P := ⟨_, rfl⟩
    obtain ⟨O, hO⟩ : ∃ O, rats os = O := ⟨_, rfl⟩
    obtain ⟨T, hT'⟩ : ∃ T, rats qs = T := ⟨_, rfl⟩
    obtain ⟨t1, t2, t3⟩ := HS.out
    rw [List.take_of_length_le (by rw [HN.out.2.1]; omega)] at t2
    rw [List.take_of_length_le (by rw [HN.out.2.2]; omega)] at t3
    have f1 := small_rats HOK.out HK.out.1
    have f2 := small_rats t2 HK.out.2.1
    have f3 := small_rats t3 HK.out.2.2
    have j1 := isL_rats HOK.out
    have j2 := isL_rats t2
    have j3 := isL_rats t3
    have l1 : (rats ps).length = k := by simp [rats, HN.out.1]
    have l2 : (rats os).length = k := by simp [rats, HN.out.2.1]
    have l3 : (rats qs).length = k := by simp [rats, HN.out.2.2]
    rw [List.take_of_length_le (by simp [mulL, l2, l3])] at t1
    subst t1
    rw [hP] at f1 j1 l1
    rw [hO] at f2 j2 l2 HI
    rw [hT'] at f3 j3 l3 HI
    have HM := Lib.hid (show Small 12 P ∧ Small 12 O ∧ Small 12 T ∧ P.length = k ∧ P.length = O.length ∧ P.length = T.length from ⟨f1, f2, f3, l1, by omega, by omega⟩)
    have HNL := Lib.hid (show P.length = k ∧ O.length = k ∧ T.length = k ∧ (mulL O T).length = k from ⟨l1, l2, l3, by simp [mulL, l2, l3]⟩)
    have HIP := Lib.hid j1
    have HIO := Lib.hid j2
    have HIT := Lib.hid j3
    have HIB := HI
    have HBO0 := Lib.hid HO.out.pl
    have HA0 := Lib.hid (Ats.nil wy)
    have HBv0 := HB
    obtain ⟨n, rfl⟩ : ∃ n, n = k := ⟨_, rfl⟩
    clear f1 f2 f3 j1 j2 j3 l1 l2 l3 t2 t3 hP hO hT' HS HO HB HI hk hlt
    -- TAIL
    by_cases hx : sumR 0 (mulL P O) = 0
    · obtain ⟨u1, u2⟩ := bayes_none HM.out.1 HM.out.2.1 HM.out.2.2.1 HM.out.2.2.2.1 HM.out.2.2.2.2.1 HM.out.2.2.2.2.2 h6 hx
      have E1 := Lib.hid u1
      have E2 := Lib.hid u2
      clear u1 u2 hx
      go_wp2_with fail
      refine (upd_no (HU.out.after HBv0.out (Nat.le_refl _)) (HV.out.after HBv0.out (Nat.le_refl _)) HIP.out HIO.out HNL.out.1 HNL.out.2.1 h6 (HT.out.below HBv0.out (Nat.le_refl _)) E1.out).mono ?_
      rintro e v1 ⟨hb, rfl⟩
      have al := (Below.refl v1.heap.size v1).alloc (Nat.le_refl _) (pObj ⟨#[]⟩ ⟨#[]⟩)
      have hb2 := hb.trans (al.mono hb.size)
      have HA1 := Lib.hid ((HA0.out.after hb (Nat.le_refl _)).push ⟨#[]⟩ ⟨#[]⟩)
      have HBv1 := Lib.hid (HBv0.out.trans (hb2.mono HBv0.out.size))
      have HBO1 := Lib.hid (HBO0.out.after hb2 (Nat.le_refl _))
      clear hb al hb2 HA0 HBv0 HBO0
      go_wp2_with fail
      refine (upd_no (HU.out.after HBv1.out (Nat.le_refl _)) HBO1.out HIP.out HIB.out HNL.out.1 HNL.out.2.2.2 h6 (HT.out.below HBv1.out (Nat.le_refl _)) E2.out).mono ?_
      rintro e v2 ⟨hb, rfl⟩
      have al := (Below.refl v2.heap.size v2).alloc (Nat.le_refl _) (pObj ⟨#[]⟩ ⟨#[]⟩)
      have hb2 := hb.trans (al.mono hb.size)
      have HA2 := Lib.hid ((HA1.out.after hb (Nat.le_refl _)).push ⟨#[]⟩ ⟨#[]⟩)
      have HBv2 := Lib.hid (HBv1.out.trans (hb2.mono HBv1.out.size))
      have HBO2 := Lib.hid (HBO1.out.after hb2 (Nat.le_refl _))
      clear hb al hb2 HA1 HBv1 HBO1
      go_wp2
      go_ret
      exact ⟨rfl, HBv2.out⟩
    obtain ⟨hx0, hxs, u1⟩ := bayes_one HM.out.1 HM.out.2.1 HM.out.2.2.2.1 HM.out.2.2.2.2.1 h6 hx
    obtain ⟨z, hz⟩ : ∃ z, sumR 0 (mulL (mulL P O) T) = z := ⟨_, rfl⟩
    have E1 := Lib.hid u1
    have NL1 : Hid (((mulL P O).map (· / sumR 0 (mulL P O))).length = n) := by show _ = _; rw [List.length_map]; simp [mulL, HNL.out.1, HNL.out.2.1]
    clear u1
    by_cases hz0 : z = 0
    · obtain ⟨u2, u3⟩ := bayes_later HM.out.1 HM.out.2.1 HM.out.2.2.1 HM.out.2.2.2.1 HM.out.2.2.2.2.1 HM.out.2.2.2.2.2 h6 hx (hz.trans hz0)
      have E2 := Lib.hid u2
      have E3 := Lib.hid u3
      clear u2 u3 hx hz hz0 hx0 hxs
      go_wp2_with fail
      refine (upd_ok (HU.out.after HBv0.out (Nat.le_refl _)) (HV.out.after HBv0.out (Nat.le_refl _)) HIP.out HIO.out HNL.out.1 HNL.out.2.1 h6 (HT.out.below HBv0.out (Nat.le_refl _)) E1.out NL1.out).mono ?_
      rintro e v1 ⟨hb, pa, ca, x1, y1, hi', hp', hpl, rfl⟩
      have HIa := Lib.hid hi'
      have HPa := Lib.hid hp'
      have al := (Below.refl v1.heap.size v1).alloc (Nat.le_refl _) (pObj x1 y1)
      have hb2 := hb.trans (al.mono hb.size)
      have HA1 := Lib.hid ((HA0.out.after hb (Nat.le_refl _)).push x1 y1)
      have HBv1 := Lib.hid (HBv0.out.trans (hb2.mono HBv0.out.size))
      have HBO1 := Lib.hid (HBO0.out.after hb2 (Nat.le_refl _))
      have Ha1 := Lib.hid (hpl.after al (Nat.le_refl _))
      clear hb al hb2 HA0 HBv0 HBO0 hi' hp' hpl
      go_wp2_with fail
      refine (upd_no (HU.out.after HBv1.out (Nat.le_refl _)) HBO1.out HIP.out HIB.out HNL.out.1 HNL.out.2.2.2 h6 (HT.out.below HBv1.out (Nat.le_refl _)) E2.out).mono ?_
      rintro e v2 ⟨hb, rfl⟩
      have al := (Below.refl v2.heap.size v2).alloc (Nat.le_refl _) (pObj ⟨#[]⟩ ⟨#[]⟩)
      have hb2 := hb.trans (al.mono hb.size)
      have HA2 := Lib.hid ((HA1.out.after hb (Nat.le_refl _)).push ⟨#[]⟩ ⟨#[]⟩)
      have HBv2 := Lib.hid (HBv1.out.trans (hb2.mono HBv1.out.size))
      have HBO2 := Lib.hid (HBO1.out.after hb2 (Nat.le_refl _))
      have Ha2 := Lib.hid (Ha1.out.after hb2 (Nat.le_refl _))
      clear hb al hb2 HA1 HBv1 HBO1 Ha1
      go_wp2_with fail
      refine (upd_no Ha2.out (HW.out.after HBv2.out (Nat.le_refl _)) HIa.out HIT.out NL1.out HNL.out.2.2.1 h6 (HT.out.below HBv2.out (Nat.le_refl _)) E3.out).mono ?_
      rintro e v3 ⟨hb, rfl⟩
      have al := (Below.refl v3.heap.size v3).alloc (Nat.le_refl _) (pObj ⟨#[]⟩ ⟨#[]⟩)
      have hb2 := hb.trans (al.mono hb.size)
      have HA3 := Lib.hid ((HA2.out.after hb (Nat.le_refl _)).push ⟨#[]⟩ ⟨#[]⟩)
      have HBv3 := Lib.hid (HBv2.out.trans (hb2.mono HBv2.out.size))
      have HBO3 := Lib.hid (HBO2.out.after hb2 (Nat.le_refl _))
      have Ha3 := Lib.hid (Ha2.out.after hb2 (Nat.le_refl _))
      clear hb al hb2 HA2 HBv2 HBO2 Ha2
      go_wp2
      go_ret
      exact ⟨rfl, HBv3.out⟩
    obtain ⟨hz1, _, u2, _, u3⟩ := bayes_both HM.out.1 HM.out.2.1 HM.out.2.2.1 HM.out.2.2.2.1 HM.out.2.2.2.2.1 HM.out.2.2.2.2.2 h6 hz hz0
    obtain ⟨_, _, _, hw, u5⟩ := bayes_both HM.out.1 HM.out.2.2.1 HM.out.2.1 HM.out.2.2.2.1 HM.out.2.2.2.2.2 HM.out.2.2.2.2.1 h6 ((congrArg (sumR 0) (mulL_turn P O T)).trans hz) hz0
    obtain ⟨hw0, _, u4⟩ := bayes_one HM.out.1 HM.out.2.2.1 HM.out.2.2.2.1 HM.out.2.2.2.2.2 h6 hw
    rw [mulL_turn] at u5
    have E2 := Lib.hid u2
    have E3 := Lib.hid u3
    have E4 := Lib.hid u4
    have E5 := Lib.hid u5
    have NL2 : Hid (((mulL P T).map (· / sumR 0 (mulL P T))).length = n) := by show _ = _; rw [List.length_map]; simp [mulL, HNL.out.1, HNL.out.2.2.1]
    have NLY : Hid (((mulL (mulL P O) T).map (· / z)).length = n) := by show _ = _; rw [List.length_map]; simp [mulL, HNL.out.1, HNL.out.2.1, HNL.out.2.2.1]
    have NLZ : Hid ((usOf ((mulL (mulL P O) T).map (· / z))).length = n) := by show _ = _; rw [usOf, List.length_map, List.length_map]; simp [mulL, HNL.out.1, HNL.out.2.1, HNL.out.2.2.1]
    have M1 : Hid (sumR 0 (mulL P O) * (z / sumR 0 (mulL P O)) = z) := by show _ = _; have := hx0; grind
    have M2 : Hid (sumR 0 (mulL P T) * (z / sumR 0 (mulL P T)) = z) := by show _ = _; have := hw0; grind
    clear u2 u3 u4 u5 hw hw0 hx hx0 hxs hz hz0 hz1
    go_wp2_with fail
    refine (upd_ok (HU.out.after HBv0.out (Nat.le_refl _)) (HV.out.after HBv0.out (Nat.le_refl _)) HIP.out HIO.out HNL.out.1 HNL.out.2.1 h6 (HT.out.below HBv0.out (Nat.le_refl _)) E1.out NL1.out).mono ?_
    rintro e v1 ⟨hb, pa, ca, x1, y1, hi', hp', hpl, rfl⟩
    have HIa := Lib.hid hi'
    have HPa := Lib.hid hp'
    have al := (Below.refl v1.heap.size v1).alloc (Nat.le_refl _) (pObj x1 y1)
    have hb2 := hb.trans (al.mono hb.size)
    have HA1 := Lib.hid ((HA0.out.after hb (Nat.le_refl _)).push x1 y1)
    have HBv1 := Lib.hid (HBv0.out.trans (hb2.mono HBv0.out.size))
    have HBO1 := Lib.hid (HBO0.out.after hb2 (Nat.le_refl _))
    have Ha1 := Lib.hid (hpl.after al (Nat.le_refl _))
    clear hb al hb2 HA0 HBv0 HBO0 hi' hp' hpl
    go_wp2_with fail
    refine (upd_ok (HU.out.after HBv1.out (Nat.le_refl _)) HBO1.out HIP.out HIB.out HNL.out.1 HNL.out.2.2.2 h6 (HT.out.below HBv1.out (Nat.le_refl _)) E2.out NLY.out).mono ?_
    rintro e v2 ⟨hb, pc, cc, x2, y2, hi', hp', hpl, rfl⟩
    have HIc := Lib.hid hi'
    have HPc := Lib.hid hp'
    have al := (Below.refl v2.heap.size v2).alloc (Nat.le_refl _) (pObj x2 y2)
    have hb2 := hb.trans (al.mono hb.size)
    have HA2 := Lib.hid ((HA1.out.after hb (Nat.le_refl _)).push x2 y2)
    have HBv2 := Lib.hid (HBv1.out.trans (hb2.mono HBv1.out.size))
    have HBO2 := Lib.hid (HBO1.out.after hb2 (Nat.le_refl _))
    have Ha2 := Lib.hid (Ha1.out.after hb2 (Nat.le_refl _))
    have Hc2 := Lib.hid (hpl.after al (Nat.le_refl _))
    clear hb al hb2 HA1 HBv1 HBO1 Ha1 hi' hp' hpl
    go_wp2_with fail
    refine (upd_ok Ha2.out (HW.out.after HBv2.out (Nat.le_refl _)) HIa.out HIT.out NL1.out HNL.out.2.2.1 h6 (HT.out.below HBv2.out (Nat.le_refl _)) E3.out NLY.out).mono ?_
    rintro e v3 ⟨hb, pb, cb, x3, y3, hi', hp', hpl, rfl⟩
    have HIb := Lib.hid hi'
    have HPb := Lib.hid hp'
    have al := (Below.refl v3.heap.size v3).alloc (Nat.le_refl _) (pObj x3 y3)
    have hb2 := hb.trans (al.mono hb.size)
    have HA3 := Lib.hid ((HA2.out.after hb (Nat.le_refl _)).push x3 y3)
    have HBv3 := Lib.hid (HBv2.out.trans (hb2.mono HBv2.out.size))
    have HBO3 := Lib.hid (HBO2.out.after hb2 (Nat.le_refl _))
    have Ha3 := Lib.hid (Ha2.out.after hb2 (Nat.le_refl _))
    have Hc3 := Lib.hid (Hc2.out.after hb2 (Nat.le_refl _))
    have Hb3 := Lib.hid (hpl.after al (Nat.le_refl _))
    clear hb al hb2 HA2 HBv2 HBO2 Ha2 Hc2 hi' hp' hpl
    go_wp2_with fail
    refine (upd_ok (HU.out.after HBv3.out (Nat.le_refl _)) (HW.out.after HBv3.out (Nat.le_refl _)) HIP.out HIT.out HNL.out.1 HNL.out.2.2.1 h6 (HT.out.below HBv3.out (Nat.le_refl _)) E4.out NL2.out).mono ?_
    rintro e v4 ⟨hb, pd, cd, x4, y4, hi', hp', hpl, rfl⟩
    have HId := Lib.hid hi'
    have HPd := Lib.hid hp'
    have al := (Below.refl v4.heap.size v4).alloc (Nat.le_refl _) (pObj x4 y4)
    have hb2 := hb.trans (al.mono hb.size)
    have HA4 := Lib.hid ((HA3.out.after hb (Nat.le_refl _)).push x4 y4)
    have HBv4 := Lib.hid (HBv3.out.trans (hb2.mono HBv3.out.size))
    have HBO4 := Lib.hid (HBO3.out.after hb2 (Nat.le_refl _))
    have Ha4 := Lib.hid (Ha3.out.after hb2 (Nat.le_refl _))
    have Hc4 := Lib.hid (Hc3.out.after hb2 (Nat.le_refl _))
    have Hb4 := Lib.hid (Hb3.out.after hb2 (Nat.le_refl _))
    have Hd4 := Lib.hid (hpl.after al (Nat.le_refl _))
    clear hb al hb2 HA3 HBv3 HBO3 Ha3 Hc3 Hb3 hi' hp' hpl
    go_wp2_with fail
    refine (upd_ok Hd4.out (HV.out.after HBv4.out (Nat.le_refl _)) HId.out HIO.out NL2.out HNL.out.2.1 h6 (HT.out.below HBv4.out (Nat.le_refl _)) E5.out NLY.out).mono ?_
    rintro e v5 ⟨hb, pi, ci, x5, y5, hi', hp', hpl, rfl⟩
    have HIi := Lib.hid hi'
    have HPi := Lib.hid hp'
    have al := (Below.refl v5.heap.size v5).alloc (Nat.le_refl _) (pObj x5 y5)
    have hb2 := hb.trans (al.mono hb.size)
    have HA5 := Lib.hid ((HA4.out.after hb (Nat.le_refl _)).push x5 y5)
    have HBv5 := Lib.hid (HBv4.out.trans (hb2.mono HBv4.out.size))
    have HBO5 := Lib.hid (HBO4.out.after hb2 (Nat.le_refl _))
    have Ha5 := Lib.hid (Ha4.out.after hb2 (Nat.le_refl _))
    have Hc5 := Lib.hid (Hc4.out.after hb2 (Nat.le_refl _))
    have Hb5 := Lib.hid (Hb4.out.after hb2 (Nat.le_refl _))
    have Hd5 := Lib.hid (Hd4.out.after hb2 (Nat.le_refl _))
    have Hi5 := Lib.hid (hpl.after al (Nat.le_refl _))
    clear hb al hb2 HA4 HBv4 HBO4 Ha4 Hc4 Hb4 Hd4 hi' hp' hpl
    have q0 := HA5.out.c0 4 rfl
    have r0 := HA5.out.c1 4 rfl
    have q1 := HA5.out.c0 2 rfl
    have r1 := HA5.out.c1 2 rfl
    go_wp2_with fail
    refine (mul_to HPa.out HPb.out HPc.out M1.out _ (HT.out.below HBv5.out (Nat.le_refl _))).mono ?_
    rintro e v6 ⟨rfl, hb⟩
    have al := (Below.refl v6.heap.size v6).alloc (Nat.le_refl _) (pObj x2 y2)
    have hb2 := hb.trans (al.mono hb.size)
    have HA6 := Lib.hid ((HA5.out.after hb (Nat.le_refl _)).push x2 y2)
    have HBv6 := Lib.hid (HBv5.out.trans (hb2.mono HBv5.out.size))
    have Hb6 := Lib.hid (Hb5.out.after hb2 (Nat.le_refl _))
    have Hc6 := Lib.hid (Hc5.out.after hb2 (Nat.le_refl _))
    have Hi6 := Lib.hid (Hi5.out.after hb2 (Nat.le_refl _))
    clear hb al hb2 HA5 HBv5 Hb5 Hc5 Hi5 q0 q1 r0 r1
    have q0 := HA6.out.c0 2 rfl
    have r0 := HA6.out.c1 2 rfl
    have q1 := HA6.out.c0 1 rfl
    have r1 := HA6.out.c1 1 rfl
    go_wp2_with fail
    refine (mul_to HPd.out HPi.out HPc.out M2.out _ (HT.out.below HBv6.out (Nat.le_refl _))).mono ?_
    rintro e v7 ⟨rfl, hb⟩
    have al := (Below.refl v7.heap.size v7).alloc (Nat.le_refl _) (pObj x2 y2)
    have hb2 := hb.trans (al.mono hb.size)
    have HA7 := Lib.hid ((HA6.out.after hb (Nat.le_refl _)).push x2 y2)
    have HBv7 := Lib.hid (HBv6.out.trans (hb2.mono HBv6.out.size))
    have Hb7 := Lib.hid (Hb6.out.after hb2 (Nat.le_refl _))
    have Hc7 := Lib.hid (Hc6.out.after hb2 (Nat.le_refl _))
    have Hi7 := Lib.hid (Hi6.out.after hb2 (Nat.le_refl _))
    clear hb al hb2 HA6 HBv6 Hb6 Hc6 Hi6 q0 q1 r0 r1
    have gn : ((n : Int) != n) = false := by simp
    go_wp2
    go_loopw [212] (fun vi wr => ∃ (k : Nat), vi = .int .i64 k ∧ k ≤ n ∧ Hid (Below (v7.alloc (pObj x2 y2)).heap.size (v7.alloc (pObj x2 y2)) wr)) (fun vi _ => n - (intOf vi).toNat)
    case atStart => exact ⟨0, rfl, Nat.zero_le _, Below.refl _ _⟩
    case round =>
      obtain ⟨k, rfl, hk, HBB⟩ := hrel
      obtain ⟨wz, rfl⟩ : ∃ wz : World, wz = wr := ⟨_, rfl⟩
      by_cases hlt : k < n
      · have hkp : k < (usOf ((mulL (mulL P O) T).map (· / z))).length := by rw [NLZ.out]; exact hlt
        obtain ⟨bb, ob, rfl, hbb, hatb⟩ := Hb7.out.at1 hkp
        obtain ⟨eb, db⟩ := hatb wz HBB.out
        obtain ⟨bc, oc, rfl, hbc, hatc⟩ := Hc7.out.at1 hkp
        obtain ⟨ec, dc⟩ := hatc wz HBB.out
        obtain ⟨bi, oi, rfl, hbi, hati⟩ := Hi7.out.at1 hkp
        obtain ⟨ei, di⟩ := hati wz HBB.out
        obtain ⟨s, hs⟩ : ∃ u, (usOf ((mulL (mulL P O) T).map (· / z)))[k].1 = u := ⟨_, rfl⟩
        obtain ⟨t, ht⟩ : ∃ u, (usOf ((mulL (mulL P O) T).map (· / z)))[k].2 = u := ⟨_, rfl⟩
        rw [hs] at eb
        rw [ht] at db
        rw [hs] at ec
        rw [ht] at dc
        rw [hs] at ei
        rw [ht] at di
        have i0' : (0 : Int) ≤ (k : Int) := by omega
        have i1' : (k : Int) < (n : Int) := by omega
        clear hs ht hkp hatb hatc hati
        go_wp2_with fail
        go_quiet (fail)
        clear eb db ec dc ei di
        go_wp2
        go_roundw
        case rel => exact ⟨k + 1, by go_num, by omega, by first | exact HBB | exact Lib.hid HBB.out.drew | exact ⟨HBB.out.os, HBB.out.tape, HBB.out.output, HBB.out.size, HBB.out.block⟩⟩
        case measure => simp [intOf]; omega
      · have HAZ := Lib.hid (HA7.out.after HBB.out (Nat.le_refl _))
        have q0 := HAZ.out.c0 0 rfl
        have r0 := HAZ.out.c1 0 rfl
        have q1 := HAZ.out.c0 1 rfl
        have r1 := HAZ.out.c1 1 rfl
        have q2 := HAZ.out.c0 5 rfl
        have r2 := HAZ.out.c1 5 rfl
        go_wp2
        go_ret
        exact ⟨rfl, HBv7.out.trans (HBB.out.mono HBv7.out.size)⟩
theorem bayes_law {u v t : Value} {ps os qs : List PP} {w : World} (hu : PL w u ps) (hv : PL w v os) (ht : PL w t qs) (hT : Tabs w) : Calls Tryz.prog 5 #[u, v, t] w (BoolPost w true) := by
  by_cases h : ps.length ≤ 6 ∧ os.length = ps.length ∧ qs.length = ps.length ∧ shortB 12 ps = true ∧ shortB 12 os = true ∧ shortB 12 qs = true
  · exact bayes_main hu hv ht hT h.1 h.2.1 h.2.2.1 h.2.2.2.1 h.2.2.2.2.1 h.2.2.2.2.2
  · exact bayes_early hu hv ht hT h
end Go.Proofs.YthbpadjhlkdpeaaGreatDoor
