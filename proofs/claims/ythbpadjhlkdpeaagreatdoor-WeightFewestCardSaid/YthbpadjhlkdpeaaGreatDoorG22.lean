/- The parts LawWhole of a proof, put together by program (merge.py). -/
import Derived.Test.YthbpadjhlkdpeaaGreatDoorG21
import Derived.Test.YthbpadjhlkdpeaaGreatDoorG17
import Derived.BigQuiet
import Derived.Deep.RegionHeld3
/- WeightWhole's walk. -/
namespace Go.Proofs.YthbpadjhlkdpeaaGreatDoor
open Go.RowKit Go.Shelf

theorem Ats.put {l : List (Nat × ByteArray × ByteArray)} {w : World} (h : Ats l w) {g : Nat} {u v : Value} (hg : w.heap[g]? = some (.cells #[u, v] 24 (0, 0))) (hl : ∀ (i : Nat) (p : Nat × ByteArray × ByteArray), l[i]? = some p → p.1 ≠ g) (x y : ByteArray) :
    Ats ((g, x, y) :: l) ((w.setCell ⟨g, 0, none⟩ (.string x)).setCell ⟨g, 1, none⟩ (.string y)) := fun i p hp => by
  cases i with
  | zero =>
    obtain rfl := Option.some.inj hp
    exact two_put hg _ _
  | succ i =>
    have h1 := h i p (by simpa using hp)
    have h2 := hl i p (by simpa using hp)
    exact ((Below.heap_setCell _ ⟨g, 1, none⟩ _ _ h2).trans (Below.heap_setCell _ ⟨g, 0, none⟩ _ _ h2)).trans h1
/-- Two elements of a list, in whatever world that comes later. -/
theorem PL.two {w : World} {p : Option Addr} {n cap : Nat} {ps : List PP} (h : PL w (.slice p n cap) ps) (hn : ps.length = n) {x y : Nat} (hx : x < n) (hy : y < n) :
    ∃ b off s t u v, p = some ⟨b, off, none⟩ ∧ ps[x]? = some (s, t) ∧ ps[y]? = some (u, v) ∧ ∀ W, Below w.heap.size w W →
      W.cell? ⟨b, off + x * 2, none⟩ = some (.string s) ∧ W.cell? ⟨b, off + x * 2 + 1, none⟩ = some (.string t) ∧ W.cell? ⟨b, off + y * 2, none⟩ = some (.string u) ∧ W.cell? ⟨b, off + y * 2 + 1, none⟩ = some (.string v) := by
  obtain ⟨p', c', hv, _, _, h4⟩ := h
  injection hv with e1 e2 e3
  subst e1
  obtain ⟨b, off, rfl, hb, hat⟩ := h4 (List.ne_nil_of_length_pos (by omega))
  refine ⟨b, off, ps[x].1, ps[x].2, ps[y].1, ps[y].2, rfl, List.getElem?_eq_getElem (by omega), List.getElem?_eq_getElem (by omega), fun W hW => ?_⟩
  obtain ⟨a1, a2⟩ := (hat.below hW hb) x (by omega)
  obtain ⟨a3, a4⟩ := (hat.below hW hb) y (by omega)
  exact ⟨a1, a2, a3, a4⟩
theorem IsL.at {qs : List Rat} {us : List PP} (h : IsL qs us) {k : Nat} {s t : ByteArray} (hu : us[k]? = some (s, t)) : ∃ q, qs[k]? = some q ∧ IsP q s t := by
  obtain ⟨hk, e⟩ := List.getElem?_eq_some_iff.1 hu
  refine ⟨_, List.getElem?_eq_getElem (by rw [h.length]; exact hk), ?_⟩
  have := h.get k hk
  rw [e] at this
  exact this

set_option maxRecDepth 100000 in
set_option maxHeartbeats 4000000 in
theorem whole_long {v : Value} {ps : List PP} {i k : Nat} {w : World} (hv : PL w v ps) (hi : i < 256) (hk : k < 256) (hT : Tabs w) (hlen : 12 < ps.length) :
    Calls Tryz.prog 7 #[v, .int .u8 i, .int .u8 k] w (BoolPost w true) := by
  obtain ⟨p, cap, rfl, hcap, hmax, hp⟩ := id hv
  obtain ⟨n, hn⟩ : ∃ n, ps.length = n := ⟨_, rfl⟩
  rw [hn] at hv hcap hlen ⊢
  have HT := Lib.hid hT
  have hlen' : (12 : Int) < n := by omega
  clear hv hT hn hp
  go_enter Tryz.func7, Tryz.ntmps7
  go_wp2_with fail
  refine (alive_any _ HT.out).mono ?_
  rintro e w1 ⟨rfl, hb1⟩
  have HB1 := Lib.hid hb1
  clear hb1
  go_wp2
  go_ret
  exact ⟨rfl, HB1.out⟩
set_option maxRecDepth 100000 in
set_option maxHeartbeats 4000000 in
theorem whole_short {v : Value} {ps : List PP} {i k : Nat} {w : World} (hv : PL w v ps) (hi : i < 256) (hk : k < 256) (hT : Tabs w) (hlen : ps.length ≤ 12) (hs : shortB 20 ps = false) :
    Calls Tryz.prog 7 #[v, .int .u8 i, .int .u8 k] w (BoolPost w true) := by
  obtain ⟨p, cap, rfl, hcap, hmax, hp⟩ := id hv
  obtain ⟨n, hn⟩ : ∃ n, ps.length = n := ⟨_, rfl⟩
  rw [hn] at hv hcap hlen ⊢
  have HV := Lib.hid hv
  have HT := Lib.hid hT
  have HS := Lib.hid hs
  have hlen' : ¬ (12 : Int) < n := by omega
  clear hv hT hn hp hs
  go_enter Tryz.func7, Tryz.ntmps7
  go_wp2_with fail
  refine (alive_any _ HT.out).mono ?_
  rintro e w1 ⟨rfl, hb1⟩
  have HB1 := Lib.hid hb1
  clear hb1
  go_wp2_with fail
  refine (short_any 20 (by decide) (HV.out.after HB1.out (Nat.le_refl _))).mono ?_
  rintro e w2 ⟨rfl, hb2⟩
  rw [HS.out]
  have HB2 := Lib.hid (HB1.out.trans (hb2.mono HB1.out.size))
  clear hb2
  go_wp2
  go_ret
  exact ⟨rfl, HB2.out⟩
set_option maxRecDepth 100000 in
set_option maxHeartbeats 4000000 in
theorem whole_none {v : Value} {i k : Nat} {w : World} (hv : PL w v []) (hi : i < 256) (hk : k < 256) (hT : Tabs w) :
    Calls Tryz.prog 7 #[v, .int .u8 i, .int .u8 k] w (BoolPost w true) := by
  obtain ⟨p, cap, rfl, hcap, hmax, hp⟩ := id hv
  have HV := Lib.hid hv
  have HT := Lib.hid hT
  have HS : Hid (shortB 20 ([] : List PP) = true) := rfl
  clear hv hT hp
  go_enter Tryz.func7, Tryz.ntmps7
  go_wp2_with fail
  refine (alive_any _ HT.out).mono ?_
  rintro e w1 ⟨rfl, hb1⟩
  have HB1 := Lib.hid hb1
  clear hb1
  go_wp2_with fail
  refine (short_any 20 (by decide) (HV.out.after HB1.out (Nat.le_refl _))).mono ?_
  rintro e w2 ⟨rfl, hb2⟩
  rw [HS.out]
  have HB2 := Lib.hid (HB1.out.trans (hb2.mono HB1.out.size))
  clear hb2
  go_wp2
  go_ret
  exact ⟨rfl, HB2.out⟩

set_option maxRecDepth 100000 in
set_option maxHeartbeats 8000000 in
theorem whole_main {v : Value} {ps : List PP} {i k : Nat} {w : World} (hv : PL w v ps) (hi : i < 256) (hk : k < 256) (hT : Tabs w) (hlen : ps.length ≤ 12) (h1 : 0 < ps.length) (hs : shortB 20 ps = true) :
    Calls Tryz.prog 7 #[v, .int .u8 i, .int .u8 k] w (BoolPost w true) := by
  obtain ⟨p, cap, rfl, hcap, hmax, hp⟩ := id hv
  have hz := shortB_iff.1 hs
  obtain ⟨n, hn⟩ : ∃ n, ps.length = n := ⟨_, rfl⟩
  rw [hn] at hv hcap hlen h1 ⊢
  have HV := Lib.hid hv
  have HT := Lib.hid hT
  have HS := Lib.hid hs
  have HN := Lib.hid hn
  have HZ := Lib.hid hz
  have hlen' : ¬ (12 : Int) < n := by omega
  have hlenD : decide ((12 : Int) < n) = false := decide_eq_false hlen'
  have hpos : ((n : Int) == 0) = false := by rw [beq_eq_false_iff_ne]; omega
  clear hv hT hn hp hs hz
  go_enter Tryz.func7, Tryz.ntmps7
  go_wp2_with fail
  refine (alive_any _ HT.out).mono ?_
  rintro e w1 ⟨rfl, hb1⟩
  have HB1 := Lib.hid hb1
  clear hb1
  go_wp2_with fail
  refine (short_any 20 (by decide) (HV.out.after HB1.out (Nat.le_refl _))).mono ?_
  rintro e w2 ⟨rfl, hb2⟩
  rw [HS.out]
  have HB2 := Lib.hid (HB1.out.trans (hb2.mono HB1.out.size))
  clear hb2
  go_wp2_with fail
  refine (shareOf_any (HV.out.after HB2.out (Nat.le_refl _)) (fun _ q hq => by have := HZ.out q hq; omega) (HT.out.below HB2.out (Nat.le_refl _))).mono ?_
  rintro e w3 ⟨hb3, hE⟩
  have HB3 := Lib.hid (HB2.out.trans (hb3.mono HB2.out.size))
  clear hb3
  rcases hE with ⟨hc, rfl⟩ | ⟨hc, hE⟩
  · have HC : Hid (chkL [ps] = 2) := chkL_two hc (by rw [HN.out]; omega)
    clear hc
    rw [HC.out]
    go_wp2
    go_ret
    exact ⟨rfl, HB3.out⟩
  obtain ⟨_, hok⟩ := chkL_one hc
  have hsm := small_rats hok HZ.out
  have hln : (rats ps).length = n := by rw [← HN.out]; simp [rats]
  have hsh := hsm.shares (by decide) (by rw [hln]; omega)
  have HW := Lib.hid (hsm.whole (by rw [hln]; omega))
  have HOK := Lib.hid hok
  have HSM := Lib.hid hsm
  clear hc hok
  rcases hsh with ⟨_, hsh⟩ | ⟨hpz, hsh⟩
  · rcases hE with ⟨s, us, v, h1, _⟩ | ⟨m, h1, rfl⟩
    · rw [hsh] at h1; cases h1
    · rw [hsh] at h1
      obtain rfl := Except.error.inj h1
      clear h1 hsh hsm hln
      go_wp2
      go_ret
      exact ⟨rfl, HB3.out⟩
  rcases hE with ⟨s, us, v, e1, hsl, hpl, rfl⟩ | ⟨m, h1, rfl⟩
  rotate_left
  · rw [hsh] at h1; cases h1
  rw [hsh] at e1
  obtain rfl := Except.ok.inj e1
  obtain ⟨z, hz⟩ : ∃ z, sumR 0 (rats ps) = z := ⟨_, rfl⟩
  rw [hz] at hsl hpz HW
  have HSL := Lib.hid hsl
  have HPL := Lib.hid hpl
  have hun : us.length = n := by rw [← hsl.length, List.length_map, hln]
  have HWS : Hid (sumA 0 (rats us) = some 1) := by show _ = _; rw [hsl.rats]; exact HW.out hpz
  have HC0 : Hid (chkL [us] = 0) := chkL_isL hsl (by omega)
  obtain ⟨p2, cap2, rfl, hcap2, hmax2, hp2⟩ := hpl
  rw [hun] at hcap2 HPL ⊢
  have HUN := Lib.hid hun
  have HPZ := Lib.hid hpz
  have HZZ := Lib.hid hz
  clear e1 hsh hsl hp2 hun hz hpz hsm hln
  go_wp2_with fail
  refine (sumOf_any HPL.out (fun _ q hq => (isP_of_ok (HSL.out.okAll q hq)).le) (HT.out.below HB3.out (Nat.le_refl _))).mono ?_
  rintro e w4 ⟨hb4, hE⟩
  have HB4 := Lib.hid ((HB3.out.trans (hb4.mono HB3.out.size)).alloc (Nat.le_trans HB3.out.size hb4.size) (pObj ⟨#[49]⟩ ⟨#[49]⟩))
  have HPL4 := Lib.hid ((HPL.out.after hb4 (Nat.le_refl _)).after ((Below.refl _ w4).alloc (Nat.le_refl _) (pObj ⟨#[49]⟩ ⟨#[49]⟩)) (Nat.le_refl _))
  clear hb4
  rcases hE with ⟨hc, _⟩ | ⟨_, ⟨z1, x, y, h1, h2, rfl⟩ | ⟨h1, _⟩⟩
  · exact absurd HC0.out hc
  rotate_left
  · rw [HWS.out] at h1; cases h1
  rw [HWS.out] at h1
  obtain rfl := Option.some.inj h1
  have hx : x = ⟨#[49]⟩ := by rw [h2.num]; decide +kernel
  have hy : y = ⟨#[49]⟩ := by rw [h2.den]; decide +kernel
  subst hx; subst hy
  clear h1 h2
  obtain ⟨x, hx⟩ : ∃ x, i % n = x := ⟨_, rfl⟩
  obtain ⟨y, hy⟩ : ∃ y, k % n = y := ⟨_, rfl⟩
  have ex : (i : Int).tmod n = (x : Nat) := by rw [← hx]; rfl
  have ey : (k : Int).tmod n = (y : Nat) := by rw [← hy]; rfl
  have hn0 : ¬ n = 0 := by omega
  have hxn : x < n := by rw [← hx]; exact Nat.mod_lt _ (by omega)
  have hyn : y < n := by rw [← hy]; exact Nat.mod_lt _ (by omega)
  have HA4 := Lib.hid ((Ats.nil w4).push ⟨#[49]⟩ ⟨#[49]⟩)
  clear hx hy
  go_wp2_with fail
  go_region
  obtain ⟨W, hW⟩ : ∃ W, (w4.alloc (pObj ⟨#[49]⟩ ⟨#[49]⟩)).drew = W := ⟨_, rfl⟩
  have HBW : Hid (Below w.heap.size w W) := by rw [← hW]; exact HB4.out.drew
  have HPW : Hid (PL W (.slice p2 n cap2) us) := by rw [← hW]; exact HPL4
  have HAW : Hid (Ats [(w4.heap.size, ⟨#[49]⟩, ⟨#[49]⟩)] W) := by rw [← hW]; exact HA4
  rw [hW]
  clear hW HB4 HPL4 HA4 ex ey hn0
  obtain ⟨b2, o2, s1, t1, s2, t2, rfl, e1, e2, hc2⟩ := HPW.out.two HUN.out hxn hyn
  obtain ⟨b0, o0, sx, tx, sy, ty, rfl, e3, e4, hc0⟩ := (HV.out.after HBW.out (Nat.le_refl _)).two HN.out hxn hyn
  obtain ⟨a1, f1, q1⟩ := HSL.out.at e1
  obtain ⟨a2, f2, q2⟩ := HSL.out.at e2
  have q3 : IsP (ratP sx tx) sx tx := isP_of_ok (HOK.out (sx, tx) (List.mem_of_getElem? e3))
  have q4 : IsP (ratP sy ty) sy ty := isP_of_ok (HOK.out (sy, ty) (List.mem_of_getElem? e4))
  have g1 : a1 = ratP sx tx / z := by
    simp [rats, e3] at f1; exact f1.symm
  have g2 : a2 = ratP sy ty / z := by
    simp [rats, e4] at f2; exact f2.symm
  have z3 := HZ.out (sx, tx) (List.mem_of_getElem? e3)
  have z4 := HZ.out (sy, ty) (List.mem_of_getElem? e4)
  have hzs : Sz 253 z := by
    have hl : (rats ps).length = n := by rw [← HN.out]; simp [rats]
    have := (HSM.out.sum (by rw [hl]; omega)).2.2
    rw [HZZ.out, hl] at this
    exact this.mono (by omega)
  subst g1; subst g2
  have hpr : ratP sy ty / z * ratP sx tx = ratP sx tx / z * ratP sy ty := by grind
  obtain ⟨X, Y, iX⟩ := sz_isP (Rat.mul_nonneg q1.nn q4.nn) (Sz.mul q1.nn q4.nn (Sz.div q3.nn HPZ.out (q3.sz z3.1 z3.2) hzs) (q4.sz z4.1 z4.2)) (by decide) (by decide)
  have Q1 := Lib.hid q1
  have Q2 := Lib.hid q2
  have Q3 := Lib.hid q3
  have Q4 := Lib.hid q4
  have IX := Lib.hid iX
  have HPR := Lib.hid hpr
  have HC2 := Lib.hid hc2
  have HC0 := Lib.hid hc0
  clear hc2 hc0 e1 e2 e3 e4 f1 f2 q1 q2 q3 q4 z3 z4 hzs iX hpr
  have hS : ∀ w', Below W.heap.size W w' → w'.cell? ⟨b2, o2 + x * 2, none⟩ = some (.string s1) ∧ w'.cell? ⟨b2, o2 + x * 2 + 1, none⟩ = some (.string t1) ∧ w'.cell? ⟨b0, o0 + y * 2, none⟩ = some (.string sy) ∧ w'.cell? ⟨b0, o0 + y * 2 + 1, none⟩ = some (.string ty) := fun w' h => by
    obtain ⟨k1, k2, _, _⟩ := HC2.out w' h
    obtain ⟨_, _, k3, k4⟩ := HC0.out w' h
    exact ⟨k1, k2, k3, k4⟩
  have HS1 := Lib.hid hS
  have hS : ∀ w', Below W.heap.size W w' → w'.cell? ⟨b2, o2 + y * 2, none⟩ = some (.string s2) ∧ w'.cell? ⟨b2, o2 + y * 2 + 1, none⟩ = some (.string t2) ∧ w'.cell? ⟨b0, o0 + x * 2, none⟩ = some (.string sx) ∧ w'.cell? ⟨b0, o0 + x * 2 + 1, none⟩ = some (.string tx) := fun w' h => by
    obtain ⟨_, _, k1, k2⟩ := HC2.out w' h
    obtain ⟨k3, k4, _, _⟩ := HC0.out w' h
    exact ⟨k1, k2, k3, k4⟩
  have HS2 := Lib.hid hS
  have ix0 : (0 : Int) ≤ (x : Int) := by omega
  have ix1 : (x : Int) < (n : Int) := by omega
  have iy0 : (0 : Int) ≤ (y : Int) := by omega
  have iy1 : (y : Int) < (n : Int) := by omega
  have HX0 : Hid (Below W.heap.size W W) := Below.refl _ W
  clear hS
  obtain ⟨k1, k2, k3, k4⟩ := HS1.out W HX0.out
  have HOW : Hid (Boxes W.heap.size [pObj ⟨#[]⟩ ⟨#[]⟩] (W.alloc (pObj ⟨#[]⟩ ⟨#[]⟩))) := Boxes.one W _
  have HZW : Hid (Below W.heap.size W (W.alloc (pObj ⟨#[]⟩ ⟨#[]⟩))) := (Below.refl _ W).alloc (Nat.le_refl _) _
  have HKA := Lib.hid (HS1.out _ (HX0.out.trans (HZW.out.mono HX0.out.size)))
  have HT1 := Lib.hid (HT.out.below (HBW.out.trans (HX0.out.mono HBW.out.size)) (Nat.le_refl _))
  go_wp2_with fail
  go_region_held3
    (fun w' => w'.cell? ⟨b2, o2 + x * 2, none⟩ = some (.string s1) ∧ w'.cell? ⟨b2, o2 + x * 2 + 1, none⟩ = some (.string t1) ∧ w'.cell? ⟨b0, o0 + y * 2, none⟩ = some (.string sy) ∧ w'.cell? ⟨b0, o0 + y * 2 + 1, none⟩ = some (.string ty))
    (first | exact ⟨k1, k2, k3, k4⟩ | exact HKA.out | exact HK5.out | exact HK6.out | exact HK7.out | exact HK8.out)
    (first
      | (go_at_call 18; refine (mul_to Q1.out Q4.out IX.out rfl _ (HT1.out.below (Below.refl W.heap.size W).drew (Nat.le_refl _))).mono ?_; rintro e w5 ⟨rfl, hb⟩; have HX5 : Hid (Below W.heap.size W w5) := ((Below.refl W.heap.size W).drew).trans hb; have HX5b := Lib.hid (HX0.out.trans (HX5.out.mono HX0.out.size)); have HK5 := Lib.hid (HS1.out w5 HX5b.out); have HK6 := Lib.hid (HS1.out _ (HX5b.out.alloc HX5b.out.size (pObj ⟨#[]⟩ ⟨#[]⟩))); have HK7 := Lib.hid (HS1.out _ (HX5b.out.alloc HX5b.out.size (pObj X Y))); clear hb)
      | (go_at_call 18; refine (mul_to Q1.out Q4.out IX.out rfl _ (HT1.out.below HZW.out.drew (Nat.le_refl _))).mono ?_; rintro e w5 ⟨rfl, hb⟩; have HX5 : Hid (Below W.heap.size W w5) := HZW.out.drew.trans (hb.mono HZW.out.size); have HX5b := Lib.hid (HX0.out.trans (HX5.out.mono HX0.out.size)); have HOB := Lib.hid (HOW.out.drew.below hb HOW.out.lt); have r0 := HOB.out.cell 0 0 (b := W.heap.size) rfl rfl rfl; have r1 := HOB.out.cell 0 1 (b := W.heap.size) rfl rfl rfl; have f0 := HOB.out.free 0 0 (b := W.heap.size) rfl rfl; have f1 := HOB.out.free 0 1 (b := W.heap.size) rfl rfl; have HK5 := Lib.hid (HS1.out w5 HX5b.out); have HK7 := Lib.hid (HS1.out _ ((HX5b.out.setCell (p := ⟨W.heap.size, 0, none⟩) HX0.out.size (.string X)))); have HK8 := Lib.hid (HS1.out _ ((HX5b.out.setCell (p := ⟨W.heap.size, 0, none⟩) HX0.out.size (.string X)).setCell (p := ⟨W.heap.size, 1, none⟩) HX0.out.size (.string Y))); clear hb))
  clear k1 k2 k3 k4
  all_goals
    first
      | (obtain ⟨W2, hW2⟩ : ∃ W2, w5.alloc (pObj X Y) = W2 := ⟨_, rfl⟩
         rw [hW2]
         have HX2 : Hid (Below W.heap.size W W2) := by rw [← hW2]; exact HX5b.out.alloc HX5b.out.size _
         have HA2 : Hid (Ats [(w5.heap.size, X, Y), (w4.heap.size, ⟨#[49]⟩, ⟨#[49]⟩)] W2) := by rw [← hW2]; exact (HAW.out.after HX5.out (Nat.le_refl _)).push X Y
         obtain ⟨g, hg⟩ : ∃ g, w5.heap.size = g := ⟨_, rfl⟩
         rw [hg] at HA2 ⊢
         clear hW2 hg HK5 HK6 HK7 HX5 HX5b)
      | (obtain ⟨W2, hW2⟩ : ∃ W2, (w5.setCell ⟨W.heap.size, 0, none⟩ (.string X)).setCell ⟨W.heap.size, 1, none⟩ (.string Y) = W2 := ⟨_, rfl⟩
         rw [hW2]
         have HX2 : Hid (Below W.heap.size W W2) := by rw [← hW2]; exact (HX5b.out.setCell (p := ⟨W.heap.size, 0, none⟩) HX0.out.size (.string X)).setCell (p := ⟨W.heap.size, 1, none⟩) HX0.out.size (.string Y)
         have HA2 : Hid (Ats [(W.heap.size, X, Y), (w4.heap.size, ⟨#[49]⟩, ⟨#[49]⟩)] W2) := by rw [← hW2]; exact (HAW.out.after HX5.out (Nat.le_refl _)).put (HOB.out.block 0 rfl rfl) (fun i p hp => Nat.ne_of_lt (HAW.out.lt i hp)) X Y
         obtain ⟨g, hg⟩ : ∃ g, W.heap.size = g := ⟨_, rfl⟩
         rw [hg] at HA2 ⊢
         clear hW2 hg HK5 HK7 HK8 HX5 HX5b HOB r0 r1 f0 f1)
    obtain ⟨k1, k2, k3, k4⟩ := HS2.out W2 HX2.out
    have HOW2 : Hid (Boxes W2.heap.size [pObj ⟨#[]⟩ ⟨#[]⟩] (W2.alloc (pObj ⟨#[]⟩ ⟨#[]⟩))) := Boxes.one W2 _
    have HZW2 : Hid (Below W2.heap.size W2 (W2.alloc (pObj ⟨#[]⟩ ⟨#[]⟩))) := (Below.refl _ W2).alloc (Nat.le_refl _) _
    have HKA := Lib.hid (HS2.out _ (HX2.out.trans (HZW2.out.mono HX2.out.size)))
    have HT1 := Lib.hid (HT.out.below (HBW.out.trans (HX2.out.mono HBW.out.size)) (Nat.le_refl _))
    go_wp2_with fail
    go_region_held3
      (fun w' => w'.cell? ⟨b2, o2 + y * 2, none⟩ = some (.string s2) ∧ w'.cell? ⟨b2, o2 + y * 2 + 1, none⟩ = some (.string t2) ∧ w'.cell? ⟨b0, o0 + x * 2, none⟩ = some (.string sx) ∧ w'.cell? ⟨b0, o0 + x * 2 + 1, none⟩ = some (.string tx))
      (first | exact ⟨k1, k2, k3, k4⟩ | exact HKA.out | exact HK5.out | exact HK6.out | exact HK7.out | exact HK8.out)
      (first
        | (go_at_call 18; refine (mul_to Q2.out Q3.out IX.out HPR.out _ (HT1.out.below (Below.refl W2.heap.size W2).drew (Nat.le_refl _))).mono ?_; rintro e w5 ⟨rfl, hb⟩; have HX5 : Hid (Below W2.heap.size W2 w5) := ((Below.refl W2.heap.size W2).drew).trans hb; have HX5b := Lib.hid (HX2.out.trans (HX5.out.mono HX2.out.size)); have HK5 := Lib.hid (HS2.out w5 HX5b.out); have HK6 := Lib.hid (HS2.out _ (HX5b.out.alloc HX5b.out.size (pObj ⟨#[]⟩ ⟨#[]⟩))); have HK7 := Lib.hid (HS2.out _ (HX5b.out.alloc HX5b.out.size (pObj X Y))); clear hb)
        | (go_at_call 18; refine (mul_to Q2.out Q3.out IX.out HPR.out _ (HT1.out.below HZW2.out.drew (Nat.le_refl _))).mono ?_; rintro e w5 ⟨rfl, hb⟩; have HX5 : Hid (Below W2.heap.size W2 w5) := HZW2.out.drew.trans (hb.mono HZW2.out.size); have HX5b := Lib.hid (HX2.out.trans (HX5.out.mono HX2.out.size)); have HOB := Lib.hid (HOW2.out.drew.below hb HOW2.out.lt); have r0 := HOB.out.cell 0 0 (b := W2.heap.size) rfl rfl rfl; have r1 := HOB.out.cell 0 1 (b := W2.heap.size) rfl rfl rfl; have f0 := HOB.out.free 0 0 (b := W2.heap.size) rfl rfl; have f1 := HOB.out.free 0 1 (b := W2.heap.size) rfl rfl; have HK5 := Lib.hid (HS2.out w5 HX5b.out); have HK7 := Lib.hid (HS2.out _ ((HX5b.out.setCell (p := ⟨W2.heap.size, 0, none⟩) HX2.out.size (.string X)))); have HK8 := Lib.hid (HS2.out _ ((HX5b.out.setCell (p := ⟨W2.heap.size, 0, none⟩) HX2.out.size (.string X)).setCell (p := ⟨W2.heap.size, 1, none⟩) HX2.out.size (.string Y))); clear hb))
    clear k1 k2 k3 k4
    all_goals
      first
        | (obtain ⟨W3, hW2⟩ : ∃ W3, w5.alloc (pObj X Y) = W3 := ⟨_, rfl⟩
           rw [hW2]
           have HX3 : Hid (Below W.heap.size W W3) := by rw [← hW2]; exact HX5b.out.alloc HX5b.out.size _
           have HA3 : Hid (Ats [(w5.heap.size, X, Y), (g, X, Y), (w4.heap.size, ⟨#[49]⟩, ⟨#[49]⟩)] W3) := by rw [← hW2]; exact (HA2.out.after HX5.out (Nat.le_refl _)).push X Y
           obtain ⟨h, hg⟩ : ∃ h, w5.heap.size = h := ⟨_, rfl⟩
           rw [hg] at HA3 ⊢
           clear hW2 hg HK5 HK6 HK7 HX5 HX5b)
        | (obtain ⟨W3, hW2⟩ : ∃ W3, (w5.setCell ⟨W2.heap.size, 0, none⟩ (.string X)).setCell ⟨W2.heap.size, 1, none⟩ (.string Y) = W3 := ⟨_, rfl⟩
           rw [hW2]
           have HX3 : Hid (Below W.heap.size W W3) := by rw [← hW2]; exact (HX5b.out.setCell (p := ⟨W2.heap.size, 0, none⟩) HX2.out.size (.string X)).setCell (p := ⟨W2.heap.size, 1, none⟩) HX2.out.size (.string Y)
           have HA3 : Hid (Ats [(W2.heap.size, X, Y), (g, X, Y), (w4.heap.size, ⟨#[49]⟩, ⟨#[49]⟩)] W3) := by rw [← hW2]; exact (HA2.out.after HX5.out (Nat.le_refl _)).put (HOB.out.block 0 rfl rfl) (fun i p hp => Nat.ne_of_lt (HA2.out.lt i hp)) X Y
           obtain ⟨h, hg⟩ : ∃ h, W2.heap.size = h := ⟨_, rfl⟩
           rw [hg] at HA3 ⊢
           clear hW2 hg HK5 HK7 HK8 HX5 HX5b HOB r0 r1 f0 f1)
      have HB3 : Hid (Below w.heap.size w W3) := HBW.out.trans (HX3.out.mono HBW.out.size)
      have hS : ∀ w', Below W3.heap.size W3 w' → w'.cell? ⟨w4.heap.size, 0, none⟩ = some (.string ⟨#[49]⟩) ∧ w'.cell? ⟨w4.heap.size, 1, none⟩ = some (.string ⟨#[49]⟩) ∧ w'.cell? ⟨g, 0, none⟩ = some (.string X) ∧ w'.cell? ⟨g, 1, none⟩ = some (.string Y) ∧ w'.cell? ⟨h, 0, none⟩ = some (.string X) ∧ w'.cell? ⟨h, 1, none⟩ = some (.string Y) := fun w' hb => by
        have h1 := HA3.out.after hb (Nat.le_refl _)
        exact ⟨h1.c0 2 rfl, h1.c1 2 rfl, h1.c0 1 rfl, h1.c1 1 rfl, h1.c0 0 rfl, h1.c1 0 rfl⟩
      have HS := Lib.hid hS
      obtain ⟨k1, k2, k3, k4, k5, k6⟩ := hS W3 (Below.refl _ W3)
      clear hS
      go_wp2_with fail
      go_region_held3
        (fun w' => w'.cell? ⟨w4.heap.size, 0, none⟩ = some (.string ⟨#[49]⟩) ∧ w'.cell? ⟨w4.heap.size, 1, none⟩ = some (.string ⟨#[49]⟩) ∧ w'.cell? ⟨g, 0, none⟩ = some (.string X) ∧ w'.cell? ⟨g, 1, none⟩ = some (.string Y) ∧ w'.cell? ⟨h, 0, none⟩ = some (.string X) ∧ w'.cell? ⟨h, 1, none⟩ = some (.string Y))
        (first | exact ⟨k1, k2, k3, k4, k5, k6⟩ | exact HK9.out)
        (first
          | (go_at_call 30; refine (of_11 _ (HT.out.below HB3.out.drew (Nat.le_refl _))).mono ?_; rintro e w9 ⟨rfl, hb⟩; have HX9 : Hid (Below W3.heap.size W3 w9) := ((Below.refl W3.heap.size W3).drew).trans hb; have HK9 := Lib.hid (HS.out w9 HX9.out); clear hb))
      clear k1 k2 k3 k4 k5 k6
      go_wp2
      go_ret
      exact ⟨rfl, HB3.out.trans (HX9.out.mono HB3.out.size)⟩
end Go.Proofs.YthbpadjhlkdpeaaGreatDoor
