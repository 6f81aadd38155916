/- The parts RLists, RSum, RSame of a proof, put together by program (merge.py). -/
import Derived.Test.YthbpadjhlkdpeaaGreatDoorG28
import Derived.Test.YthbpadjhlkdpeaaGreatDoorG15
import Derived.Test.YthbpadjhlkdpeaaGreatDoorG21
/- The document's lists: the errors of two lists. -/
namespace Go.Proofs.YthbpadjhlkdpeaaGreatDoor
open Go.RowKit Go.Shelf

theorem Boxes.aside {B : Nat} {os : List Obj} {w : World} (h : Boxes B os w) {g : Nat} (hg : B + os.length ≤ g) (x y : Value) : Boxes B os ((w.setCell ⟨g, 0, Option.none⟩ x).setCell ⟨g, 1, Option.none⟩ y) := by
  refine ⟨by have := h.1; simp; omega, fun i o ho => ?_⟩
  have hi : i < os.length := by
    rcases Nat.lt_or_ge i os.length with h1 | h1
    · exact h1
    · rw [List.getElem?_eq_none h1] at ho; cases ho
  exact ((Below.heap_setCell _ ⟨g, 1, Option.none⟩ _ _ (by simp; omega)).trans (Below.heap_setCell _ ⟨g, 0, Option.none⟩ _ _ (by simp; omega))).trans (h.2 i o ho)
theorem Ats.place {l : List (Nat × ByteArray × ByteArray)} {w : World} (h : Ats l w) {g : Nat} {u v : Value} (hg : w.heap[g]? = some (.cells #[u, v] 24 (0, 0))) (hl : ∀ (i : Nat) (p : Nat × ByteArray × ByteArray), l[i]? = some p → p.1 ≠ g) (x y : ByteArray) :
    Ats ((g, x, y) :: l) ((w.setCell ⟨g, 0, none⟩ (.string x)).setCell ⟨g, 1, none⟩ (.string y)) := fun i p hp => by
  cases i with
  | zero =>
    obtain rfl := Option.some.inj hp
    exact two_put hg _ _
  | succ i =>
    have h1 := h i p (by simpa using hp)
    have h2 := hl i p (by simpa using hp)
    exact ((Below.heap_setCell _ ⟨g, 1, none⟩ _ _ h2).trans (Below.heap_setCell _ ⟨g, 0, none⟩ _ _ h2)).trans h1
theorem chkL_nil (ps : List PP) : chkL [ps, []] = chkL [ps] := by unfold chkL; simp; rfl
/-- The elements up to the k-th are valid. -/
def OkTo (ps : List PP) (k : Nat) : Prop := ∀ z (h : z < ps.length), z < k → okP ps[z].1 ps[z].2 = true
theorem OkTo.start (ps : List PP) : OkTo ps 0 := by
  intro z _ h
  exact absurd h (by omega)
theorem OkTo.next {ps : List PP} {k : Nat} (h : OkTo ps k) (hk : k < ps.length) (ho : okP ps[k].1 ps[k].2 = true) : OkTo ps (k + 1) := by
  intro z h1 h2
  rcases Nat.lt_or_ge z k with h3 | h3
  · exact h z h1 h3
  · obtain rfl : z = k := by omega
    exact ho
theorem OkTo.all {ps : List PP} (h : OkTo ps ps.length) : ∀ p ∈ ps, okP p.1 p.2 = true := fun p hp => by
  obtain ⟨j, hj, rfl⟩ := List.getElem_of_mem hp
  exact h j hj hj


set_option maxRecDepth 100000 in
set_option maxHeartbeats 4000000 in
theorem lists_any {u v : Value} {ps os : List PP} {w : World} (hu : PL w u ps) (hv : PL w v os) (hsm : ps.length ≤ 512 → os.length ≤ 512 → ∀ p ∈ ps ++ os, p.1.size ≤ 1000000 ∧ p.2.size ≤ 1000000) :
    Calls Tryz.prog 82 #[u, v] w (IntPost w (chkL [ps, os])) := by
  obtain ⟨p1, c1, rfl, _, hm1, hp1⟩ := hu
  obtain ⟨p2, c2, rfl, _, hm2, hp2⟩ := hv
  obtain ⟨n1, hn1⟩ : ∃ n, ps.length = n := ⟨_, rfl⟩
  obtain ⟨n2, hn2⟩ : ∃ n, os.length = n := ⟨_, rfl⟩
  have HN := Lib.hid (And.intro hn1 hn2)
  have HP1 := Lib.hid hp1
  have HP2 := Lib.hid hp2
  have HSM := Lib.hid hsm
  rw [hn1, hn2]
  clear hp1 hp2 hsm
  by_cases g1 : 512 < n1
  · have g1' : (512 : Int) < (n1 : Nat) := by omega
    have HQ : Hid (chkL [ps, os] = 3) := chkL_long (l := ps) (by simp) (by omega)
    clear hn1 hn2 g1
    go_enter Tryz.func82, Tryz.ntmps82
    go_wp2
    go_ret
    exact ⟨by rw [HQ.out]; rfl, Below.refl _ _⟩
  have g1' : ¬ (512 : Int) < (n1 : Nat) := by omega
  have g1'' : decide ((512 : Int) < (n1 : Nat)) = false := decide_eq_false g1'
  by_cases g2 : 512 < n2
  · have g2' : (512 : Int) < (n2 : Nat) := by omega
    have HQ : Hid (chkL [ps, os] = 3) := chkL_long (l := os) (by simp) (by omega)
    clear hn1 hn2 g1 g2
    go_enter Tryz.func82, Tryz.ntmps82
    go_wp2
    go_ret
    exact ⟨by rw [HQ.out]; rfl, Below.refl _ _⟩
  have g2' : ¬ (512 : Int) < (n2 : Nat) := by omega
  have g2'' : decide ((512 : Int) < (n2 : Nat)) = false := decide_eq_false g2'
  have HL : Hid (∀ l ∈ [ps, os], l.length ≤ 512) := fun l hl => by
    rcases List.mem_cons.1 hl with rfl | hl
    · omega
    · rcases List.mem_cons.1 hl with rfl | hl
      · omega
      · cases hl
  have HSZ := Lib.hid (HSM.out (by omega) (by omega))
  have HB : Hid (Below w.heap.size w w) := Below.refl _ w
  clear hn1 hn2 g1 g2 HSM
  go_enter Tryz.func82, Tryz.ntmps82
  go_wp2
  go_loopw [5] (fun vi wr => ∃ (k : Nat), vi = .int .i64 k ∧ k ≤ n1 ∧ Hid (OkTo ps k) ∧ Hid (Below w.heap.size w wr)) (fun vi _ => n1 - (intOf vi).toNat)
  case atStart => exact ⟨0, rfl, Nat.zero_le _, OkTo.start _, HB⟩
  case round =>
    clear HB
    obtain ⟨k, rfl, hk, HK, HB⟩ := hrel
    obtain ⟨wy, rfl⟩ : ∃ wy : World, wy = wr := ⟨_, rfl⟩
    by_cases hlt : k < n1
    · have hkl : k < (ps).length := by rw [HN.out.1]; exact hlt
      obtain ⟨s, hs⟩ : ∃ u, (ps)[k].1 = u := ⟨_, rfl⟩
      obtain ⟨t, ht⟩ : ∃ u, (ps)[k].2 = u := ⟨_, rfl⟩
      have HOK : Hid (okP (ps)[k].1 (ps)[k].2 = okP s t) := by show _ = _; rw [hs, ht]
      obtain ⟨bb, off, rfl, hbb, hat⟩ := HP1.out (List.ne_nil_of_length_pos (by omega))
      obtain ⟨e0, e1⟩ := (hat.below HB.out hbb) k hkl
      obtain ⟨hz1, hz2⟩ := HSZ.out (ps)[k] (by simp [List.mem_append])
      rw [hs] at e0 hz1
      rw [ht] at e1 hz2
      have i0 : (0 : Int) ≤ (k : Int) := by omega
      have i1 : (k : Int) < (n1 : Int) := by omega
      clear hat hs ht
      go_wp2_with fail
      refine (rcheck_any s t _ hz1 hz2).mono ?_
      rintro e w5 ⟨rfl, hb5⟩
      have HB5 := Lib.hid (HB.out.trans (hb5.mono HB.out.size))
      clear hb5 e0 e1
      cases ho : okP s t
      · have HE := Lib.hid (okE_no ho)
        have HC : Hid (chkL [ps, os] = 2) := chkL_bad HL.out (l := ps) (by simp) (List.getElem_mem hkl) (by rw [HOK.out]; exact ho)
        clear ho
        rw [HE.out]
        go_wp2
        go_ret
        exact ⟨by rw [HC.out]; rfl, HB5.out⟩
      · have HE := Lib.hid (okE_yes ho)
        have HK2 : Hid (OkTo (ps) (k + 1)) := HK.out.next hkl (by rw [HOK.out]; exact ho)
        clear ho
        rw [HE.out]
        go_wp2
        go_roundw
        case rel => exact ⟨k + 1, by go_num, by omega, HK2, HB5⟩
        case measure => simp [intOf]; omega
    · have HO1 : Hid (∀ p ∈ ps, okP p.1 p.2 = true) := by
        obtain rfl : k = n1 := by omega
        have h := HK.out
        rw [← HN.out.1] at h
        exact h.all
      have hge : ¬ (k : Int) < (n1 : Nat) := by omega
      clear HK hlt
      go_wp2
      go_loopw [6] (fun vi wr => ∃ (k : Nat), vi = .int .i64 k ∧ k ≤ n2 ∧ Hid (OkTo os k) ∧ Hid (Below w.heap.size w wr)) (fun vi _ => n2 - (intOf vi).toNat)
      case atStart => exact ⟨0, rfl, Nat.zero_le _, OkTo.start _, HB⟩
      case round =>
        clear HB
        obtain ⟨k, rfl, hk, HK, HB⟩ := hrel
        obtain ⟨wy, rfl⟩ : ∃ wy : World, wy = wr := ⟨_, rfl⟩
        by_cases hlt : k < n2
        · have hkl : k < (os).length := by rw [HN.out.2]; exact hlt
          obtain ⟨s, hs⟩ : ∃ u, (os)[k].1 = u := ⟨_, rfl⟩
          obtain ⟨t, ht⟩ : ∃ u, (os)[k].2 = u := ⟨_, rfl⟩
          have HOK : Hid (okP (os)[k].1 (os)[k].2 = okP s t) := by show _ = _; rw [hs, ht]
          obtain ⟨bb, off, rfl, hbb, hat⟩ := HP2.out (List.ne_nil_of_length_pos (by omega))
          obtain ⟨e0, e1⟩ := (hat.below HB.out hbb) k hkl
          obtain ⟨hz1, hz2⟩ := HSZ.out (os)[k] (by simp [List.mem_append])
          rw [hs] at e0 hz1
          rw [ht] at e1 hz2
          have i0 : (0 : Int) ≤ (k : Int) := by omega
          have i1 : (k : Int) < (n2 : Int) := by omega
          clear hat hs ht
          go_wp2_with fail
          refine (rcheck_any s t _ hz1 hz2).mono ?_
          rintro e w5 ⟨rfl, hb5⟩
          have HB5 := Lib.hid (HB.out.trans (hb5.mono HB.out.size))
          clear hb5 e0 e1
          cases ho : okP s t
          · have HE := Lib.hid (okE_no ho)
            have HC : Hid (chkL [ps, os] = 2) := chkL_bad HL.out (l := os) (by simp) (List.getElem_mem hkl) (by rw [HOK.out]; exact ho)
            clear ho
            rw [HE.out]
            go_wp2
            go_ret
            exact ⟨by rw [HC.out]; rfl, HB5.out⟩
          · have HE := Lib.hid (okE_yes ho)
            have HK2 : Hid (OkTo (os) (k + 1)) := HK.out.next hkl (by rw [HOK.out]; exact ho)
            clear ho
            rw [HE.out]
            go_wp2
            go_roundw
            case rel => exact ⟨k + 1, by go_num, by omega, HK2, HB5⟩
            case measure => simp [intOf]; omega
        · have HO2 : Hid (∀ p ∈ os, okP p.1 p.2 = true) := by
            obtain rfl : k = n2 := by omega
            have h := HK.out
            rw [← HN.out.2] at h
            exact h.all
          have HQ : Hid (chkL [ps, os] = 0) := chkL_ok HL.out fun l hl => by
            rcases List.mem_cons.1 hl with rfl | hl
            · exact HO1.out
            · rcases List.mem_cons.1 hl with rfl | hl
              · exact HO2.out
              · cases hl
          have hge2 : ¬ (k : Int) < (n2 : Nat) := by omega
          clear HK hlt
          go_wp2
          go_ret
          exact ⟨by rw [HQ.out]; rfl, HB.out⟩
end Go.Proofs.YthbpadjhlkdpeaaGreatDoor
/- The document's Sum. -/
namespace Go.Proofs.YthbpadjhlkdpeaaGreatDoor
open Go.RowKit Go.Shelf

/-- An element of a list, in whatever world that comes later. -/
theorem PL.at1 {w : World} {p : Option Addr} {n cap : Nat} {ps : List PP} (h : PL w (.slice p n cap) ps) {k : Nat} (hk : k < ps.length) :
    ∃ b off, p = some ⟨b, off, none⟩ ∧ b < w.heap.size ∧ ∀ W, Below w.heap.size w W →
      W.cell? ⟨b, off + k * 2, none⟩ = some (.string ps[k].1) ∧ W.cell? ⟨b, off + k * 2 + 1, none⟩ = some (.string ps[k].2) := by
  obtain ⟨p', c', hv, _, _, h4⟩ := h
  injection hv with e1 e2 e3
  subst e1
  obtain ⟨b, off, rfl, hb, hat⟩ := h4 (List.ne_nil_of_length_pos (by omega))
  exact ⟨b, off, rfl, hb, fun W hW => (hat.below hW hb) k hk⟩

set_option maxRecDepth 100000 in
theorem rzero_any (w : World) : Calls Tryz.prog 83 #[] w (ValPost (pV ⟨#[48]⟩ ⟨#[49]⟩) w) := by
  go_enter Tryz.func83, Tryz.ntmps83
  go_wp2
  have HB1 : Hid (Below w.heap.size w (w.alloc (pObj ⟨#[48]⟩ ⟨#[49]⟩))) := (Below.refl _ w).alloc (Nat.le_refl _) _
  have c0 := cell_new w #[.string ⟨#[48]⟩, .string ⟨#[49]⟩] 24 0 rfl
  have c1 := cell_new w #[.string ⟨#[48]⟩, .string ⟨#[49]⟩] 24 1 rfl
  refine bodyPost_ret (v := pV ⟨#[48]⟩ ⟨#[49]⟩) (by simp [results, Tryz.f83, go_sem, c0, c1]) rfl ⟨rfl, HB1.out⟩

/-- How far the document's sum has come. -/
def SumSt (rs : List Rat) (k : Nat) (n : Int) (x y : ByteArray) : Prop := (n = 0 ∧ ∃ q, sumA 0 rs = sumA q (rs.drop k) ∧ IsP q x y) ∨ (n = 4 ∧ sumA 0 rs = none)
theorem SumSt.start (rs : List Rat) : SumSt rs 0 0 ⟨#[48]⟩ ⟨#[49]⟩ := .inl ⟨rfl, 0, rfl, isP_zero⟩
theorem SumSt.step {rs : List Rat} {k : Nat} {x' y' : ByteArray} {n : Int} {q r : Rat} (h : sumA 0 rs = sumA q (rs.drop k)) (hr : rs.drop k = r :: rs.drop (k + 1)) (ha : Ans (q + r) x' y' n) : SumSt rs (k + 1) n x' y' := by
  rcases ha with ⟨ha, rfl⟩ | ⟨ha, _, _, rfl⟩
  · refine .inl ⟨rfl, q + r, ?_, ha⟩
    rw [h, hr]
    show sumA q (r :: rs.drop (k + 1)) = _
    unfold sumA
    rw [if_pos ha.fits]
    cases rs.drop (k + 1) <;> rfl
  · refine .inr ⟨rfl, ?_⟩
    rw [h, hr]
    unfold sumA
    rw [if_neg ha]

/-- Add of two valid fractions, by the document. -/
theorem radd_step {a b : Rat} {s t u v : ByteArray} (ha : IsP a s t) (hb : IsP b u v) (w : World) :
    Calls Tryz.prog 38 #[.agg #[.string s, .string t], .agg #[.string u, .string v]] w (PartPost (Ans (a + b)) w) := by
  refine (radd_rat s t u v w ha.limit.1 ha.limit.2 hb.limit.1 hb.limit.2).mono ?_
  rintro e w' ⟨x, y, n, rfl, h, hB⟩
  have h1 := h.both ha.ok hb.ok
  rw [ha.rat, hb.rat] at h1
  exact ⟨x, y, n, rfl, h1, hB⟩

set_option maxRecDepth 100000 in
set_option maxHeartbeats 4000000 in
theorem rsum_any {u : Value} {ps : List PP} {w : World} (hu : PL w u ps) (hsm : ps.length ≤ 512 → ∀ p ∈ ps, p.1.size ≤ 1000000 ∧ p.2.size ≤ 1000000) :
    Calls Tryz.prog 31 #[u] w (SumOf ps w) := by
  obtain ⟨p1, n1, c1, rfl⟩ : ∃ p n c, u = .slice p n c := by obtain ⟨p, c, h, _⟩ := hu; exact ⟨_, _, _, h⟩
  have hn1 : ps.length = n1 := by obtain ⟨p, c, h, _⟩ := hu; injection h with _ h; exact h.symm
  have hcm : c1 ≤ maxLen ∧ n1 ≤ c1 := by
    obtain ⟨p, c, h, h1, h2, _⟩ := hu
    injection h with _ e2 e3
    omega
  unfold maxLen at hcm
  have HN := Lib.hid hn1
  have HU := Lib.hid hu
  have HSM := Lib.hid hsm
  clear hu hsm hn1
  obtain ⟨c, hc⟩ : ∃ c, chkL [ps] = c := ⟨_, rfl⟩
  have HC : Hid (chkL [ps, []] = c) := by show _ = _; rw [chkL_nil, hc]
  by_cases h0 : c = 0
  · subst h0
    obtain ⟨g1, g3⟩ := chkL_one hc
    have HQ1 := Lib.hid (isL_rats g3)
    have HCC := Lib.hid hc
    clear hc g1 g3
    go_enter Tryz.func31, Tryz.ntmps31
    go_wp2_with fail
    obtain ⟨w1, hw1⟩ : ∃ w1, w.alloc (pObj ⟨#[]⟩ ⟨#[]⟩) = w1 := ⟨_, rfl⟩
    rw [hw1]
    have HX1 : Hid (Boxes w.heap.size [pObj ⟨#[]⟩ ⟨#[]⟩] w1) := by rw [← hw1]; exact Boxes.one w _
    have HB1 : Hid (Below w.heap.size w w1) := by rw [← hw1]; exact (Below.refl _ w).alloc (Nat.le_refl _) _
    clear hw1
    refine (lists_any (HU.out.after HB1.out (Nat.le_refl _)) (PL.nil _) (fun h _ p hp => HSM.out h p (by simpa using hp))).mono ?_
    rintro e w2 ⟨rfl, hb2⟩
    have HB2 := Lib.hid (HB1.out.trans (hb2.mono HB1.out.size))
    have HX2 := Lib.hid (HX1.out.below hb2 HX1.out.lt)
    clear hb2
    rw [HC.out]
    go_wp2_with fail
    refine (rzero_any _).mono ?_
    rintro e w3 ⟨rfl, hb3⟩
    have HB3 := Lib.hid (HB2.out.trans (hb3.mono HB2.out.size))
    have HX3 := Lib.hid (HX2.out.below hb3 HX2.out.lt)
    clear hb3
    have HB4 := Lib.hid (HB3.out.alloc HB3.out.size (pObj ⟨#[48]⟩ ⟨#[49]⟩))
    have HX4 := Lib.hid (HX3.out.alloc (pObj ⟨#[48]⟩ ⟨#[49]⟩))
    have HA4 := Lib.hid ((Ats.nil w3).push ⟨#[48]⟩ ⟨#[49]⟩)
    have HG : Hid (w.heap.size + 1 ≤ w3.heap.size) := HX3.out.lt
    go_wp2
    go_loopw [4, 6] (fun ve vi wr => ∃ (k : Nat) (n : Int) (x y : ByteArray), ve = .int .i64 n ∧ vi = .int .i64 k ∧ k ≤ n1 ∧ Hid (SumSt (rats ps) k n x y) ∧ Hid (Ats [(w3.heap.size, x, y)] wr) ∧ Hid (Boxes w.heap.size [pObj ⟨#[]⟩ ⟨#[]⟩] wr) ∧ Hid (Below w.heap.size w wr)) (fun _ vi _ => n1 - (intOf vi).toNat)
    case atStart => exact ⟨0, 0, _, _, rfl, rfl, Nat.zero_le _, SumSt.start _, HA4, HX4, HB4⟩
    case round =>
      clear HA4 HX4 HB4 HX3 HB3
      obtain ⟨k, n, x, y, rfl, rfl, hk, HS, HA, HX, HB⟩ := hrel
      obtain ⟨wy, rfl⟩ : ∃ wy : World, wy = wr := ⟨_, rfl⟩
      have HFIN : Hid (n ≠ 0 → sumA 0 (rats ps) = none ∧ n = 4) := fun hn => by
        rcases HS.out with ⟨h, _⟩ | ⟨h, h2⟩
        · exact absurd h hn
        · exact ⟨h2, h⟩
      by_cases hn0 : n = 0
      · subst hn0
        have HQ : Hid (∃ q, sumA 0 (rats ps) = sumA q ((rats ps).drop k) ∧ IsP q x y) := by
          rcases HS.out with ⟨_, h⟩ | ⟨h, _⟩
          · exact h
          · exact absurd h (by decide)
        clear HS HFIN
        obtain ⟨q, hq1, hq2⟩ := HQ.out
        have HQ1' := Lib.hid hq1
        have HQ2 := Lib.hid hq2
        clear hq1 hq2 HQ
        by_cases hlt : k < n1
        · have hkp : k < ps.length := by rw [HN.out]; exact hlt
          obtain ⟨bb, off, rfl, hbl, hat⟩ := HU.out.at1 hkp
          obtain ⟨s, hs⟩ : ∃ u, ps[k].1 = u := ⟨_, rfl⟩
          obtain ⟨t, ht⟩ : ∃ v, ps[k].2 = v := ⟨_, rfl⟩
          obtain ⟨r, hr⟩ : ∃ r, (rats ps)[k]'(by rw [HQ1.out.length]; exact hkp) = r := ⟨_, rfl⟩
          have HV : Hid (IsP r s t) := by rw [← hr, ← hs, ← ht]; exact HQ1.out.get k hkp
          have HD : Hid ((rats ps).drop k = r :: (rats ps).drop (k + 1)) := by rw [← hr]; exact List.drop_eq_getElem_cons _
          have HC2 : Hid (∀ W, Below w.heap.size w W → W.cell? ⟨bb, off + k * 2, none⟩ = some (.string s) ∧ W.cell? ⟨bb, off + k * 2 + 1, none⟩ = some (.string t)) := fun W hW => by
            have := hat W hW; rw [hs, ht] at this; exact this
          have i0 : (0 : Int) ≤ (k : Int) := by omega
          have i1 : (k : Int) < (n1 : Int) := by omega
          obtain ⟨e0, e1⟩ := HC2.out wy HB.out
          have m0 := HA.out.c0 0 rfl
          have m1 := HA.out.c1 0 rfl
          clear hat hs ht hr hkp
          go_wp2_with fail
          go_region_with (go_at_call 38; go_loud (refine (radd_step HQ2.out HV.out _).mono ?_; rintro e w5 ⟨x', y', n', rfl, hR, hb⟩; have HR := Lib.hid (SumSt.step HQ1'.out HD.out hR); have hb5 : Below wy.heap.size wy w5 := ((Below.refl wy.heap.size wy).drew).trans hb; have HB5 := Lib.hid (HB.out.trans (hb5.mono HB.out.size)); have HX5 := Lib.hid (HX.out.below hb5 HX.out.lt); have HA5 := Lib.hid (HA.out.after hb5 (Nat.le_refl _)); have k0 := HA5.out.c0 0 rfl; have k1 := HA5.out.c1 0 rfl; have z0 := known_frozen (HA5.out 0 _ rfl) 0; have z1 := known_frozen (HA5.out 0 _ rfl) 1; clear hR hb hb5))
          all_goals
            clear e0 e1 m0 m1 k0 k1 z0 z1
            have HA6 : Hid (Ats [(w3.heap.size, x', y')] ((w5.setCell ⟨w3.heap.size, 0, none⟩ (.string x')).setCell ⟨w3.heap.size, 1, none⟩ (.string y'))) := (Ats.nil w5).place (HA5.out 0 _ rfl) (fun i p hp => by simp at hp) x' y'
            have hg : w.heap.size ≤ w3.heap.size := by have := HG.out; omega
            have HB6 := Lib.hid (two_put_below HB5.out hg (.string x') (.string y'))
            have HX6 : Hid (Boxes w.heap.size [pObj ⟨#[]⟩ ⟨#[]⟩] ((w5.setCell ⟨w3.heap.size, 0, none⟩ (.string x')).setCell ⟨w3.heap.size, 1, none⟩ (.string y'))) := HX5.out.aside (by have := HG.out; simp; omega) _ _
            obtain ⟨w6, hw6⟩ : ∃ w6, (w5.setCell ⟨w3.heap.size, 0, none⟩ (.string x')).setCell ⟨w3.heap.size, 1, none⟩ (.string y') = w6 := ⟨_, rfl⟩
            rw [hw6] at HA6 HB6 HX6 ⊢
            clear hw6 hg
            go_wp2
            go_roundw
            case rel => exact ⟨k + 1, n', x', y', rfl, by go_num, by omega, HR, HA6, HX6, HB6⟩
            case measure => simp [intOf]; omega
        · have HE : Hid (sumA 0 (rats ps) = some q) := by
            show _ = _
            rw [HQ1'.out, List.drop_of_length_le (by rw [HQ1.out.length, HN.out]; omega)]; rfl
          have m0 := HA.out.c0 0 rfl
          have m1 := HA.out.c1 0 rfl
          have r0 := HX.out.cell 0 0 (b := w.heap.size) rfl rfl rfl
          have r1 := HX.out.cell 0 1 (b := w.heap.size) rfl rfl rfl
          have f0 := HX.out.free 0 0 (b := w.heap.size) rfl rfl
          have f1 := HX.out.free 0 1 (b := w.heap.size) rfl rfl
          go_wp2
          have q := two_put_cells (HX.out.block 0 (b := w.heap.size) rfl rfl) (.string x) (.string y)
          have HBQ := Lib.hid (two_put_below HB.out (b := w.heap.size) (by omega) (.string x) (.string y))
          refine bodyPost_ret (v := .tuple #[.agg #[.string x, .string y], .int .i64 0]) (by simp [results, Tryz.f31, go_sem, q.1, q.2]) rfl ⟨HBQ.out, .inr ⟨HCC.out, .inl ⟨_, _, _, HE.out, HQ2.out, rfl⟩⟩⟩
      · have hz : (n == 0) = false := by rw [beq_eq_false_iff_ne]; exact hn0
        have hz2 : (n != 0) = true := by rw [bne_iff_ne]; exact hn0
        have HE := Lib.hid (HFIN.out hn0)
        clear hn0 HFIN HS
        have r0 := HX.out.cell 0 0 (b := w.heap.size) rfl rfl rfl
        have r1 := HX.out.cell 0 1 (b := w.heap.size) rfl rfl rfl
        have f0 := HX.out.free 0 0 (b := w.heap.size) rfl rfl
        have f1 := HX.out.free 0 1 (b := w.heap.size) rfl rfl
        go_wp2
        all_goals
          have q := two_put_cells (HX.out.block 0 (b := w.heap.size) rfl rfl) (.string ⟨#[]⟩) (.string ⟨#[]⟩)
          have HBQ := Lib.hid (two_put_below HB.out (b := w.heap.size) (by omega) (.string ⟨#[]⟩) (.string ⟨#[]⟩))
          refine bodyPost_ret (v := .tuple #[.agg #[.string ⟨#[]⟩, .string ⟨#[]⟩], .int .i64 n]) (by simp [results, Tryz.f31, go_sem, q.1, q.2]) rfl ⟨HBQ.out, .inr ⟨HCC.out, .inr ⟨HE.out.1, by rw [HE.out.2]; rfl⟩⟩⟩
  · have hz : (c == 0) = false := by rw [beq_eq_false_iff_ne]; exact h0
    have hz2 : (c != 0) = true := by rw [bne_iff_ne]; exact h0
    have HCC : Hid (chkL [ps] = c ∧ c ≠ 0) := ⟨hc, h0⟩
    clear h0 hc
    go_enter Tryz.func31, Tryz.ntmps31
    go_wp2_with fail
    obtain ⟨w1, hw1⟩ : ∃ w1, w.alloc (pObj ⟨#[]⟩ ⟨#[]⟩) = w1 := ⟨_, rfl⟩
    rw [hw1]
    have HX1 : Hid (Boxes w.heap.size [pObj ⟨#[]⟩ ⟨#[]⟩] w1) := by rw [← hw1]; exact Boxes.one w _
    have HB1 : Hid (Below w.heap.size w w1) := by rw [← hw1]; exact (Below.refl _ w).alloc (Nat.le_refl _) _
    clear hw1
    refine (lists_any (HU.out.after HB1.out (Nat.le_refl _)) (PL.nil _) (fun h _ p hp => HSM.out h p (by simpa using hp))).mono ?_
    rintro e w2 ⟨rfl, hb2⟩
    have HB2 := Lib.hid (HB1.out.trans (hb2.mono HB1.out.size))
    have HX2 := Lib.hid (HX1.out.below hb2 HX1.out.lt)
    clear hb2
    rw [HC.out]
    go_wp2_with fail
    refine (rzero_any _).mono ?_
    rintro e w3 ⟨rfl, hb3⟩
    have HB3 := Lib.hid (HB2.out.trans (hb3.mono HB2.out.size))
    have HX3 := Lib.hid (HX2.out.below hb3 HX2.out.lt)
    clear hb3
    have HB4 := Lib.hid (HB3.out.alloc HB3.out.size (pObj ⟨#[48]⟩ ⟨#[49]⟩))
    have HX4 := Lib.hid (HX3.out.alloc (pObj ⟨#[48]⟩ ⟨#[49]⟩))
    have HA4 := Lib.hid ((Ats.nil w3).push ⟨#[48]⟩ ⟨#[49]⟩)
    have HG : Hid (w.heap.size + 1 ≤ w3.heap.size) := HX3.out.lt
    go_wp2
    go_loopw [4, 6] (fun ve vi wr => ve = .int .i64 c ∧ vi = .int .i64 0 ∧ Hid (Boxes w.heap.size [pObj ⟨#[]⟩ ⟨#[]⟩] wr) ∧ Hid (Below w.heap.size w wr)) (fun _ vi _ => n1 - (intOf vi).toNat)
    case atStart => exact ⟨rfl, rfl, HX4, HB4⟩
    case round =>
      clear HA4 HX4 HB4 HX3 HB3
      obtain ⟨rfl, rfl, HX, HB⟩ := hrel
      have r0 := HX.out.cell 0 0 (b := w.heap.size) rfl rfl rfl
      have r1 := HX.out.cell 0 1 (b := w.heap.size) rfl rfl rfl
      have f0 := HX.out.free 0 0 (b := w.heap.size) rfl rfl
      have f1 := HX.out.free 0 1 (b := w.heap.size) rfl rfl
      go_wp2
      all_goals
        have q := two_put_cells (HX.out.block 0 (b := w.heap.size) rfl rfl) (.string ⟨#[]⟩) (.string ⟨#[]⟩)
        have HBQ := Lib.hid (two_put_below HB.out (b := w.heap.size) (by omega) (.string ⟨#[]⟩) (.string ⟨#[]⟩))
        refine bodyPost_ret (v := .tuple #[.agg #[.string ⟨#[]⟩, .string ⟨#[]⟩], .int .i64 c]) (by simp [results, Tryz.f31, go_sem, q.1, q.2]) rfl ⟨HBQ.out, .inl ⟨by rw [HCC.out.1]; exact HCC.out.2, by rw [HCC.out.1]; rfl⟩⟩
end Go.Proofs.YthbpadjhlkdpeaaGreatDoor
/- The document's Same, Long; the law package's long. -/
namespace Go.Proofs.YthbpadjhlkdpeaaGreatDoor
open Go.RowKit Go.Shelf

set_option maxRecDepth 100000 in
set_option maxHeartbeats 4000000 in
/-- Two lists of the same fractions. -/
theorem same_any {u v : Value} {ps : List PP} {w : World} (hu : PL w u ps) (hv : PL w v ps) : Calls Tryz.prog 28 #[u, v] w (BoolPost w true) := by
  obtain ⟨p1, c1, rfl, hc1, hm1, hp1⟩ := id hu
  obtain ⟨p2, c2, rfl, hc2, hm2, hp2⟩ := id hv
  obtain ⟨n, hn⟩ : ∃ n, ps.length = n := ⟨_, rfl⟩
  rw [hn] at hu hv hc1 hc2 ⊢
  unfold maxLen at hm1 hm2
  have HU := Lib.hid hu
  have HV := Lib.hid hv
  have HN := Lib.hid hn
  clear hu hv hn hp1 hp2
  go_enter Tryz.func28, Tryz.ntmps28
  go_wp2
  go_loopw [5] (fun vi wr => ∃ (k : Nat), vi = .int .i64 k ∧ k ≤ n ∧ Hid (Below w.heap.size w wr)) (fun vi _ => n - (intOf vi).toNat)
  case atStart => exact ⟨0, rfl, Nat.zero_le _, Below.refl _ _⟩
  case round =>
    obtain ⟨k, rfl, hk, HB⟩ := hrel
    obtain ⟨wy, rfl⟩ : ∃ wy : World, wy = wr := ⟨_, rfl⟩
    by_cases hlt : k < n
    · have hkp : k < ps.length := by rw [HN.out]; exact hlt
      obtain ⟨b1, o1, rfl, hb1, hat1⟩ := HU.out.at1 hkp
      obtain ⟨b2, o2, rfl, hb2, hat2⟩ := HV.out.at1 hkp
      obtain ⟨e0, e1⟩ := hat1 wy HB.out
      obtain ⟨d0, d1⟩ := hat2 wy HB.out
      obtain ⟨s, hs⟩ : ∃ u, ps[k].1 = u := ⟨_, rfl⟩
      obtain ⟨t, ht⟩ : ∃ v, ps[k].2 = v := ⟨_, rfl⟩
      rw [hs] at e0 d0
      rw [ht] at e1 d1
      have i0 : (0 : Int) ≤ (k : Int) := by omega
      have i1 : (k : Int) < (n : Int) := by omega
      clear hat1 hat2 hs ht hkp
      go_wp2_with fail
      go_region
      clear e0 e1 d0 d1
      obtain ⟨w8, hw8⟩ : ∃ w8, wy.drew = w8 := ⟨_, rfl⟩
      have HB8 : Hid (Below w.heap.size w w8) := by rw [← hw8]; exact HB.out.drew
      rw [hw8]
      clear hw8
      go_wp2
      go_roundw
      case rel => exact ⟨k + 1, by go_num, by omega, HB8⟩
      case measure => simp [intOf]; omega
    · go_wp2
      go_ret
      exact ⟨rfl, HB.out⟩

/-- Too many elements, or one that is too long. -/
def longB (many most : Nat) (ps : List PP) : Bool := decide (many < ps.length) || ps.any fun p => decide (most < p.1.size) || decide (most < p.2.size)
theorem longB_one {many most : Nat} {ps : List PP} {k : Nat} (hk : k < ps.length) (h : most < ps[k].1.size ∨ most < ps[k].2.size) : longB many most ps = true := by
  unfold longB
  rw [Bool.or_eq_true]
  refine .inr (List.any_eq_true.2 ⟨ps[k], List.getElem_mem hk, ?_⟩)
  simpa using h
theorem longB_no {many most : Nat} {ps : List PP} (hl : ps.length ≤ many) (h : ∀ j (hj : j < ps.length), ps[j].1.size ≤ most ∧ ps[j].2.size ≤ most) : longB many most ps = false := by
  unfold longB
  rw [Bool.or_eq_false_iff]
  refine ⟨decide_eq_false (by omega), ?_⟩
  rw [List.any_eq_false]
  intro p hp
  obtain ⟨j, hj, rfl⟩ := List.getElem_of_mem hp
  have := h j hj
  simp; omega
theorem longB_le {many most : Nat} {ps : List PP} (h : longB many most ps = false) : ps.length ≤ many ∧ ∀ p ∈ ps, p.1.size ≤ most ∧ p.2.size ≤ most := by
  unfold longB at h
  rw [Bool.or_eq_false_iff] at h
  refine ⟨by have := of_decide_eq_false h.1; omega, fun p hp => ?_⟩
  have := (List.any_eq_false.1 h.2) p hp
  simp at this
  omega

set_option maxRecDepth 100000 in
set_option maxHeartbeats 4000000 in
theorem rlong_any (many most : Nat) (hm : most ≤ 100000) (hm2 : many ≤ 100000) {v : Value} {ps : List PP} {w : World} (hv : PL w v ps) :
    Calls Tryz.prog 71 #[v, .int .i64 many, .int .i64 most] w fun e w' => e = .returned (.bool (longB many most ps)) ∧ w = w' := by
  obtain ⟨p1, c1, rfl, hc1, hm1, hp1⟩ := id hv
  obtain ⟨n, hn⟩ : ∃ n, ps.length = n := ⟨_, rfl⟩
  rw [hn] at hv hc1 ⊢
  unfold maxLen at hm1
  have HV := Lib.hid hv
  have HN := Lib.hid hn
  clear hv hp1
  by_cases g1 : many < n
  · have g1' : (many : Int) < (n : Nat) := by omega
    have HQ : Hid (longB many most ps = true) := by show _ = _; unfold longB; rw [decide_eq_true (by rw [HN.out]; exact g1)]; rfl
    clear g1 hn
    go_enter Tryz.func71, Tryz.ntmps71
    go_wp2
    go_ret
    exact ⟨by rw [HQ.out]; rfl, rfl⟩
  have g1' : ¬ (many : Int) < (n : Nat) := by omega
  clear hn
  go_enter Tryz.func71, Tryz.ntmps71
  go_wp2
  go_loop [7] (fun vi => ∃ (k : Nat), vi = .int .i64 k ∧ k ≤ n ∧ Hid (∀ j (hj : j < ps.length), j < k → ps[j].1.size ≤ most ∧ ps[j].2.size ≤ most)) (fun vi => n - (intOf vi).toNat)
  case atStart => exact ⟨0, rfl, Nat.zero_le _, fun j _ h => by omega⟩
  case round =>
    obtain ⟨k, rfl, hk, HK⟩ := hrel
    by_cases hlt : k < n
    · have hkp : k < ps.length := by rw [HN.out]; exact hlt
      have HKP := Lib.hid hkp
      obtain ⟨b1, o1, rfl, hb1, hat1⟩ := HV.out.at1 hkp
      obtain ⟨e0, e1⟩ := hat1 w (Below.refl _ w)
      obtain ⟨s, t, hst⟩ : ∃ s t, ps[k]'hkp = (s, t) := ⟨_, _, rfl⟩
      rw [hst] at e0 e1
      dsimp only at e0 e1
      have HST : Hid ((ps[k]'HKP.out).1 = s ∧ (ps[k]'HKP.out).2 = t) := by
        have h2 : ps[k]'HKP.out = (s, t) := hst
        rw [h2]; exact ⟨rfl, rfl⟩
      have i0 : (0 : Int) ≤ (k : Int) := by omega
      have i1 : (k : Int) < (n : Int) := by omega
      clear hat1 hst
      by_cases q1 : most < s.size
      · have q1' : (most : Int) < s.size := by omega
        have HQ : Hid (longB many most ps = true) := longB_one HKP.out (.inl (by rw [HST.out.1]; exact q1))
        clear q1
        go_wp2
        go_ret
        exact ⟨by rw [HQ.out]; rfl, rfl⟩
      · have q1' : ¬ (most : Int) < s.size := by omega
        have q1'' : decide ((most : Int) < s.size) = false := decide_eq_false q1'
        by_cases q2 : most < t.size
        · have q2' : (most : Int) < t.size := by omega
          have HQ : Hid (longB many most ps = true) := longB_one HKP.out (.inr (by rw [HST.out.2]; exact q2))
          clear q1 q2
          go_wp2
          go_ret
          exact ⟨by rw [HQ.out]; rfl, rfl⟩
        · have q2' : ¬ (most : Int) < t.size := by omega
          have HK2 : Hid (∀ j (hj : j < ps.length), j < k + 1 → ps[j].1.size ≤ most ∧ ps[j].2.size ≤ most) := fun j h1 h2 => by
            rcases Nat.lt_or_ge j k with h3 | h3
            · exact HK.out j h1 h3
            · obtain rfl : j = k := by omega
              rw [HST.out.1, HST.out.2]; omega
          clear q1 q2
          go_wp2
          go_round
          case rel => exact ⟨k + 1, by go_num, by omega, HK2⟩
          case measure => simp [intOf]; omega
    · have HQ : Hid (longB many most ps = false) := longB_no (by rw [HN.out]; omega) fun j hj => HK.out j hj (by rw [HN.out] at hj; omega)
      go_wp2
      go_ret
      exact ⟨by rw [HQ.out]; rfl, rfl⟩
end Go.Proofs.YthbpadjhlkdpeaaGreatDoor
