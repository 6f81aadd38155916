/- The parts DMiss, DSlope, ChanceTo of a proof, put together by program (merge6.py). -/
import Derived.Test.YtcncdepjbhnknaaGreatDoorH20
import Derived.Test.YtcncdepjbhnknaaGreatDoorJ01
import Derived.Test.YtcncdepjbhnknaaGreatDoorJ05
import Derived.Test.YtcncdepjbhnknaaGreatDoorH15
set_option linter.unusedVariables false
set_option linter.unusedSimpArgs false
/- detect's Miss. -/
namespace Go.Proofs.YtcncdepjbhnknaaGreatDoor
open Go.RowKit Go.Shelf
attribute [local go_sem ↓] Go.wp_at_zero Go.wp_at_succ

theorem chance_size {bs : List BB} {q r : Rat} (h : CurveP bs) (hq0 : 0 ≤ q) (hz : Sz 300 q) (hr : ChanceR bs.length (cR bs) (hR bs) q r) : Sz 409 r := by
  obtain ⟨k, hk, rfl⟩ := hr
  by_cases hi : k + 1 < bs.length
  · have := (lin_size h.conc' h.sizes.1 h.sizes.2 hq0 hz hi hk).2.2.2.2.2
    exact this.mono (by omega)
  · have e : lin bs.length (cR bs) (hR bs) k q = hR bs k := by
      unfold lin slo
      rw [if_neg hi]
      grind
    rw [e]
    exact (h.sizes.2 k hk.1).mono (by omega)
theorem not_isP {r : Rat} (h0 : 0 ≤ r) (h1 : r ≤ 1) (hz : Sz 409 r) : ∃ x y, IsP (1 - r) x y := by
  have z1 : Sz 1 (1 : Rat) := ⟨by decide +kernel, by decide +kernel⟩
  have := Sz.sub (a := 1) (b := r) (by decide) h0 h1 z1 hz
  exact sz_isP' (by grind) this (by decide) (by decide)
theorem not_to {r : Rat} {s t x y : ByteArray} (hr : IsP r s t) (h1 : r ≤ 1) (hx : IsP (1 - r) x y) (w : World)(hT : Tabs w) : Calls Tryz.prog 93 #[pV s t] w (ValPost (.tuple #[pV x y, .int .i64 0]) w) := by
  refine (not_any s t w hr.limit.1 hr.limit.2 hT).mono ?_
  rintro e w' ⟨u, v, n, rfl, h, hb⟩
  have h2 := h.both isP_one.ok hr.ok
  rw [isP_one.rat, hr.rat] at h2
  rcases h2 with ⟨h3, _⟩ | ⟨_, h3⟩
  · grind
  · obtain ⟨rfl, rfl, rfl⟩ := ans_to h3 hx rfl
    exact ⟨rfl, hb⟩
theorem rnot_to {r : Rat} {s t x y : ByteArray} (hr : IsP r s t) (h1 : r ≤ 1) (hx : IsP (1 - r) x y) (w : World) : Calls Tryz.prog 95 #[pV s t] w (ValPost (.tuple #[pV x y, .int .i64 0]) w) := by
  refine (rnot_any s t w hr.limit.1 hr.limit.2).mono ?_
  rintro e w' ⟨u, v, n, rfl, h, hb⟩
  have h2 := h.both isP_one.ok hr.ok
  rw [isP_one.rat, hr.rat] at h2
  rcases h2 with ⟨h3, _⟩ | ⟨_, h3⟩
  · grind
  · obtain ⟨rfl, rfl, rfl⟩ := ans_to h3 hx rfl
    exact ⟨rfl, hb⟩
/-- Mul of two valid fractions. -/
theorem mul_ans {a b : Rat} {s t u v : ByteArray} (ha : IsP a s t) (hb : IsP b u v) (w : World) (hT : Tabs w) :
    Calls Tryz.prog 29 #[.agg #[.string s, .string t], .agg #[.string u, .string v]] w (PartPost (Ans (a * b)) w) := by
  refine (mul_rat s t u v w ha.limit.1 ha.limit.2 hb.limit.1 hb.limit.2 hT).mono ?_
  rintro e w' ⟨x, y, n, rfl, h, hB⟩
  have h1 := h.both ha.ok hb.ok
  rw [ha.rat, hb.rat] at h1
  exact ⟨x, y, n, rfl, h1, hB⟩
theorem all_get {k : Nat} {ps : List PP} (h : ps.all (smallP k) = true) {i : Nat} (hi : i < ps.length) : smallP k ps[i] = true := List.all_eq_true.1 h _ (List.getElem_mem hi)

def MissD (bs : List BB) (ps : List PP) (x y : ByteArray) (n : Int) : Prop := ∃ cs, ChancesL bs ps cs ∧ MissE 1 cs x y n
/-- What a round reads. -/
abbrev SM (o Bl g : Nat) (v : Value) (x y s t : ByteArray) (w' : World) : Prop := w'.cell? ⟨o, 0, none⟩ = some (.string x) ∧ w'.cell? ⟨o, 1, none⟩ = some (.string y) ∧ w'.cell? ⟨Bl, 0, none⟩ = some v ∧ w'.cell? ⟨g, 0, none⟩ = some (.string s) ∧ w'.cell? ⟨g, 1, none⟩ = some (.string t)
set_option maxRecDepth 100000 in
set_option maxHeartbeats 8000000 in
theorem miss1_any {p1 p2 : Option Addr} {n1 c1 m c2 : Nat} {bs : List BB} {ps : List PP} {w : World} (Bc Bl : Nat) (hc : w.heap[Bc]? = some (.cells #[.slice p2 m c2] 67)) (hl : w.heap[Bl]? = some (.cells #[.slice p1 n1 c1] 34))
    (hv : BL w (.slice p1 n1 c1) bs) (hv2 : PL w (.slice p2 m c2) ps) (hm : ps.length = m) (hok : MissOk bs ps) (hD : DetV w) (hT : Tabs w) :
    Calls Tryz.prog 92 #[.pointer (some ⟨Bc, 0, none⟩), .pointer (some ⟨Bl, 0, none⟩)] w (DoneD (MissD bs ps) w) := by
  have hc0 : w.cell? ⟨Bc, 0, none⟩ = some (.slice p2 m c2) := known_cell hc 0 rfl
  have hcl : Bc < w.heap.size := (Array.getElem?_eq_some_iff.1 hc).1
  have HL := Lib.hid hl
  have HV := Lib.hid hv
  have HT := Lib.hid hT
  have HM := Lib.hid hm
  have HOK := Lib.hid hok
  obtain ⟨_, c2', he, hmc, hmm, hp⟩ := hv2
  injection he with e1 e2 e3
  subst e1 e3
  have HP2 := Lib.hid hp
  have hm64 : m ≤ 512 := by rw [← hm]; exact hok.2
  rw [hm] at hmc
  unfold maxLen at hmm
  obtain ⟨w1, hw1⟩ : ∃ z, (w.alloc (pObj ⟨#[]⟩ ⟨#[]⟩)).alloc (pObj ⟨#[49]⟩ ⟨#[49]⟩) = z := ⟨_, rfl⟩
  have HX1 : Hid (Boxes w.heap.size [pObj ⟨#[]⟩ ⟨#[]⟩, pObj ⟨#[49]⟩ ⟨#[49]⟩] w1) := by rw [← hw1]; exact Boxes.two w _ _
  have HB1 : Hid (Below w.heap.size w w1) := by rw [← hw1]; exact ((Below.refl _ w).alloc (Nat.le_refl _) _).alloc (by simp) _
  have o0 := (hD.below ((Below.refl w.heap.size w).alloc (Nat.le_refl _) (pObj ⟨#[]⟩ ⟨#[]⟩)) (Nat.le_refl _)).o0
  have o1 := (hD.below ((Below.refl w.heap.size w).alloc (Nat.le_refl _) (pObj ⟨#[]⟩ ⟨#[]⟩)) (Nat.le_refl _)).o1
  have b0 : w1.cell? ⟨Bc, 0, none⟩ = some (.slice p2 m c2) := (HB1.out.cell (p := ⟨Bc, 0, none⟩) hcl).trans hc0
  clear hc hl hv hp hT hok hm hD hc0 hcl
  go_enter Tryz.func92, Tryz.ntmps92
  go_wp2
  clear hw1 b0 o0 o1
  go_loopw [9] (fun i wr => ∃ (k : Nat) (xo yo : ByteArray) (a : Rat), i = .int .i64 k ∧ k ≤ m ∧ Hid (Boxes w.heap.size [pObj ⟨#[]⟩ ⟨#[]⟩, pObj xo yo] wr) ∧ Hid (IsP a xo yo ∧ MissL bs ps k a) ∧ Hid (Below w.heap.size w wr)) (fun i _ => m - (intOf i).toNat)
  case atStart => exact ⟨0, _, _, 1, rfl, Nat.zero_le _, HX1, ⟨isP_one, MissL.zero bs ps⟩, HB1⟩
  case round =>
    obtain ⟨k, xo, yo, a, rfl, hk, HX, HA, HB⟩ := hrel
    by_cases hlt : k < m
    · have hkp : k < ps.length := by rw [HM.out]; exact hlt
      obtain ⟨bb, off, rfl, hbl, hat⟩ := HP2.out (List.ne_nil_of_length_pos (by omega))
      obtain ⟨e0, e1⟩ := (hat.below HB.out hbl) k hkp
      have hsm := isP_small (all_get HOK.out.1.2 hkp)
      have HSL : Hid (∀ {a c : Rat}, MissL bs ps k a → ChanceR bs.length (cR bs) (hR bs) (ratP ps[k].1 ps[k].2) c → (Fits (a * (1 - c)) → MissL bs ps (k + 1) (a * (1 - c))) ∧ (¬ Fits (a * (1 - c)) → MissD bs ps ⟨#[]⟩ ⟨#[]⟩ 4)) :=
        fun h hc => ⟨fun hf => h.step hkp hc hf, fun hf => h.stop HOK.out.1.1 hkp hc hf⟩
      obtain ⟨s, hs⟩ : ∃ u, ps[k].1 = u := ⟨_, rfl⟩
      obtain ⟨t, ht⟩ : ∃ u, ps[k].2 = u := ⟨_, rfl⟩
      rw [hs, ht] at hsm HSL
      rw [hs] at e0
      rw [ht] at e1
      have HSM := Lib.hid hsm
      have i0' : (0 : Int) ≤ (k : Int) := by omega
      have i1' : (k : Int) < (m : Int) := by omega
      clear hat hs ht hsm hkp
      go_wp2_with fail
      obtain ⟨g, hg⟩ : ∃ g, wr.heap.size = g := ⟨_, rfl⟩
      obtain ⟨W, hW⟩ : ∃ z, wr.alloc (pObj s t) = z := ⟨_, rfl⟩
      have hXg : w.heap.size + 2 ≤ g := by rw [← hg]; exact HX.out.lt
      have hal : Below wr.heap.size wr W := by rw [← hW]; exact (Below.refl _ wr).alloc (Nat.le_refl _) _
      have HG : Hid (W.heap[g]? = some (pObj s t)) := by rw [← hW, ← hg]; exact World.alloc_heap_new wr _
      have HXW : Hid (Boxes w.heap.size [pObj ⟨#[]⟩ ⟨#[]⟩, pObj xo yo] W) := HX.out.below hal HX.out.lt
      have HBW : Hid (Below w.heap.size w W) := HB.out.trans (hal.mono HB.out.size)
      have HS : Hid (∀ V, Below W.heap.size W V → SM (w.heap.size + 1) Bl g (.slice p1 n1 c1) xo yo s t V) := fun V hV => by
        have hx := HXW.out.below hV HXW.out.lt
        have hb := HBW.out.trans (hV.mono HBW.out.size)
        have hl := (hb.block Bl (Array.getElem?_eq_some_iff.1 HL.out).1).trans HL.out
        have hg := (hV.block g (Array.getElem?_eq_some_iff.1 HG.out).1).trans HG.out
        exact ⟨hx.cell 1 0 (b := w.heap.size + 1) rfl rfl rfl, hx.cell 1 1 (b := w.heap.size + 1) rfl rfl rfl, known_cell hl 0 rfl, known_cell hg 0 rfl, known_cell hg 1 rfl⟩
      have HTW : Hid (∀ V, Below W.heap.size W V → Tabs V) := fun V hV => HT.out.below (HBW.out.trans (hV.mono HBW.out.size)) (Nat.le_refl _)
      have HVW : Hid (∀ V, Below W.heap.size W V → BL V (.slice p1 n1 c1) bs) := fun V hV => HV.out.after (HBW.out.trans (hV.mono HBW.out.size)) (Nat.le_refl _)
      have HW0 : Hid (Below W.heap.size W W.drew) := (Below.refl _ W).drew
      rw [hg, hW]
      clear hW hal e0 e1 hg
      refine tsteps_plain [(true, 0), (true, 1), (true, 2), (false, 3), (false, 4), (true, 5), (true, 6), (false, 7), (false, 8), (true, 9), (true, 10), (false, 11), (false, 12)] (SM (w.heap.size + 1) Bl g (.slice p1 n1 c1) xo yo s t) (fun j => j == 12)
        (by kernel_rfl) (by kernel_rfl) (by kernel_rfl) (fun j hj => by simp at hj ⊢; omega) (fun _ _ o _ _ h => by cases o <;> exact h) (HS.out _ HW0.out) ?_
      skip
      iterate 3
        refine steps_read _ rfl rfl (fun w' hS => by obtain ⟨a0, a1, b0, c0, c1⟩ := hS; go_simp; rfl) ?_
        simp only [List.getElem_toArray, List.getElem_cons_succ, List.getElem_cons_zero, Act.put, List.setIfInBounds_toArray, List.set_cons_zero, List.set_cons_succ]
      refine steps_write rfl rfl fun K hK => ?_
      go_simp
      go_at_call 70
      refine (chance_any (HVW.out _ HW0.out) HOK.out.1.1 HSM.out.1 HSM.out.2 (HTW.out _ HW0.out)).mono ?_
      rintro e w1 ⟨x1, y1, c, rfl, hc1, hx1, hb⟩
      have HW1 : Hid (Below W.heap.size W w1) := HW0.out.trans (hb.mono HW0.out.size)
      obtain ⟨x2, y2, hx2⟩ := not_isP (hc1.nn HOK.out.1.1.conc' HSM.out.1.nn) (hc1.top HOK.out.1.1.conc') (chance_size HOK.out.1.1 HSM.out.1.nn HSM.out.2 hc1)
      have HC : Hid (ChanceR bs.length (cR bs) (hR bs) (ratP s t) c ∧ IsP c x1 y1 ∧ c ≤ 1 ∧ IsP (1 - c) x2 y2) := ⟨hc1, hx1, hc1.top HOK.out.1.1.conc', hx2⟩
      clear hc1 hx1 hx2
      skip
      refine hK _ _ (.inr (HS.out _ HW1.out)) ?_
      clear hK K hb
      refine steps_write rfl rfl fun K hK => ?_
      go_simp
      go_at_call 93
      refine (not_to HC.out.2.1 HC.out.2.2.1 HC.out.2.2.2 _ (HTW.out _ HW1.out)).mono ?_
      rintro e w2 ⟨rfl, hb⟩
      have HW2 : Hid (Below W.heap.size W w2) := HW1.out.trans (hb.mono HW1.out.size)
      skip
      refine hK _ _ (.inr (HS.out _ HW2.out)) ?_
      clear hK K hb
      iterate 2
        refine steps_read _ rfl rfl (fun w' hS => by obtain ⟨a0, a1, b0, c0, c1⟩ := hS; go_simp; rfl) ?_
        simp only [List.getElem_toArray, List.getElem_cons_succ, List.getElem_cons_zero, Act.put, List.setIfInBounds_toArray, List.set_cons_zero, List.set_cons_succ]
      refine steps_write rfl rfl fun K hK => ?_
      go_simp
      go_at_call 77
      refine (dmust_ok x2 y2 _).mono ?_
      rintro e w3 ⟨rfl, hb⟩
      have HW3 : Hid (Below W.heap.size W w3) := HW2.out.trans (hb.mono HW2.out.size)
      skip
      refine hK _ _ (.inr (HS.out _ HW3.out)) ?_
      clear hK K hb
      refine steps_write rfl rfl fun K hK => ?_
      go_simp
      go_at_call 29
      refine (mul_ans HA.out.1 HC.out.2.2.2 _ (HTW.out _ HW3.out)).mono ?_
      rintro e w4 ⟨x3, y3, n3, rfl, hx3, hb⟩
      have HW4 : Hid (Below W.heap.size W w4) := HW3.out.trans (hb.mono HW3.out.size)
      have HX3 := Lib.hid hx3
      clear hx3
      skip
      refine hK _ _ (.inr (HS.out _ HW4.out)) ?_
      clear hK K hb
      iterate 2
        refine steps_read _ rfl rfl (fun w' hS => by obtain ⟨a0, a1, b0, c0, c1⟩ := hS; go_simp; rfl) ?_
        simp only [List.getElem_toArray, List.getElem_cons_succ, List.getElem_cons_zero, Act.put, List.setIfInBounds_toArray, List.set_cons_zero, List.set_cons_succ]
      refine steps_write rfl rfl fun K hK => ?_
      go_simp
      go_at_call 77
      refine (dmust_any x3 y3 n3 _).mono ?_
      rintro e w5 ⟨hE, hb⟩
      have HW5 : Hid (Below W.heap.size W w5) := HW4.out.trans (hb.mono HW4.out.size)
      rcases hE with ⟨h0, rfl⟩ | ⟨h0, rfl⟩
      · have HP3 : Hid (IsP (a * (1 - c)) x3 y3) := HX3.out.zero h0
        have HN3 : Hid (MissL bs ps (k + 1) (a * (1 - c))) := (HSL.out HA.out.2 HC.out.1).1 HP3.out.fits
        clear h0
        skip
        refine hK _ _ (.inr (HS.out _ HW5.out)) ?_
        clear hK K hb
        have HX5 := Lib.hid (HXW.out.below HW5.out HXW.out.lt)
        have HB5 : Hid (Below w.heap.size w w5) := HBW.out.trans (HW5.out.mono HBW.out.size)
        have p0 := HX5.out.cell 1 0 (b := w.heap.size + 1) rfl rfl rfl
        have p1 := HX5.out.cell 1 1 (b := w.heap.size + 1) rfl rfl rfl
        have f0 := HX5.out.free 1 0 (b := w.heap.size + 1) rfl rfl
        have f1 := HX5.out.free 1 1 (b := w.heap.size + 1) rfl rfl
        refine steps_write rfl rfl fun K hK => ?_
        go_simp
        have hq := two_put (HX5.out.block 1 (b := w.heap.size + 1) rfl rfl) (.string x3) (.string y3)
        have hr : ((w5.setCell ⟨w.heap.size + 1, 0, none⟩ (.string x3)).setCell ⟨w.heap.size + 1, 1, none⟩ (.string y3)).heap[w.heap.size]? = some (pObj ⟨#[]⟩ ⟨#[]⟩) := ((Below.heap_setCell _ _ _ _ (by show w.heap.size ≠ w.heap.size + 1; omega)).trans (Below.heap_setCell _ _ _ _ (by show w.heap.size ≠ w.heap.size + 1; omega))).trans (HX5.out.block 0 rfl rfl)
        have HBQ := Lib.hid (two_put_below HB5.out (b := w.heap.size + 1) (Nat.le_succ _) (.string x3) (.string y3))
        obtain ⟨Z, hZ⟩ : ∃ Z, (w5.setCell ⟨w.heap.size + 1, 0, none⟩ (.string x3)).setCell ⟨w.heap.size + 1, 1, none⟩ (.string y3) = Z := ⟨_, rfl⟩
        have hZs : Z.heap.size = w5.heap.size := by rw [← hZ]; simp
        rw [hZ] at hq hr HBQ ⊢
        have HXZ : Hid (Boxes w.heap.size [pObj ⟨#[]⟩ ⟨#[]⟩, pObj x3 y3] Z) := by
          refine ⟨by have := HX5.out.lt; simp at this ⊢; omega, fun i o ho => ?_⟩
          match i, ho with
          | 0, ho => cases ho; exact hr
          | 1, ho => cases ho; exact hq
        refine hK _ _ (.inl rfl) ?_
        clear hK K p0 p1 f0 f1 hq hr hZ hZs
        refine steps_end ?_
        go_wp2
        go_roundw
        case rel => exact ⟨k + 1, x3, y3, _, by go_num, by omega, HXZ, ⟨HP3.out, HN3.out⟩, HBQ⟩
        case measure => simp [intOf]; omega
      · have HNF : Hid (¬ Fits (a * (1 - c)) ∧ n3 = 4) := by
          rcases HX3.out with ⟨_, h1⟩ | ⟨h1, _, _, h2⟩
          · exact absurd h1 h0
          · exact ⟨h1, h2⟩
        have HD4 : Hid (MissD bs ps ⟨#[]⟩ ⟨#[]⟩ 4) := (HSL.out HA.out.2 HC.out.1).2 HNF.out.1
        clear hK h0
        have hn4 := HNF.out.2
        subst hn4
        refine ⟨rfl, ⟨#[]⟩, ⟨#[]⟩, 4, .inr ⟨by decide, rfl, rfl, rfl⟩, HD4.out, ?_⟩
        exact HBW.out.trans (HW5.out.mono HBW.out.size)
    · obtain rfl : m = k := by omega
      have HE : Hid (MissD bs ps xo yo 0) := by
        have h := HA.out.2
        rw [← HM.out] at h
        exact h.done HA.out.1
      have c0 := HX.out.cell 1 0 (b := w.heap.size + 1) rfl rfl rfl
      have c1 := HX.out.cell 1 1 (b := w.heap.size + 1) rfl rfl rfl
      have d0 := HX.out.cell 0 0 (b := w.heap.size) rfl rfl rfl
      have d1 := HX.out.cell 0 1 (b := w.heap.size) rfl rfl rfl
      have f0 := HX.out.free 0 0 (b := w.heap.size) rfl rfl
      have f1 := HX.out.free 0 1 (b := w.heap.size) rfl rfl
      go_wp2
      obtain ⟨q0, q1⟩ := two_put_cells (HX.out.block 0 (b := w.heap.size) rfl rfl) (.string xo) (.string yo)
      exact bodyPost_ret (v := .agg #[.string xo, .string yo]) (by simp [results, Tryz.f92, go_sem, q0, q1]) rfl ⟨xo, yo, 0, .inl ⟨rfl, rfl⟩, HE.out, two_put_below HB.out (Nat.le_refl _) (.string xo) (.string yo)⟩
end Go.Proofs.YtcncdepjbhnknaaGreatDoor
/- detect's Slope. -/
namespace Go.Proofs.YtcncdepjbhnknaaGreatDoor
open Go.RowKit Go.Shelf
attribute [local go_sem ↓] Go.wp_at_zero Go.wp_at_succ

def SlopeG (c : Rat) (x y : ByteArray) (n : Int) : Prop := n = 0 ∧ IsP c x y
set_option maxRecDepth 100000 in
set_option maxHeartbeats 4000000 in
theorem slope1_any {w : World} {a b c d : Rat} {s0 t0 u0 v0 s1 t1 u1 v1 x1 y1 x2 y2 x y : ByteArray} (A1 B1 : Nat) (hA : w.heap[A1]? = some (bO s0 t0 u0 v0)) (hB : w.heap[B1]? = some (bO s1 t1 u1 v1))
    (hc : IsP c s0 t0) (ha : IsP a u0 v0) (hd : IsP d s1 t1) (hb : IsP b u1 v1) (h1 : IsP (b - a) x1 y1) (h2 : IsP (d - c) x2 y2) (h3 : IsP ((b - a) / (d - c)) x y) (hp : 0 < d - c) (hT : Tabs w) :
    Calls Tryz.prog 86 #[.pointer (some ⟨A1, 0, none⟩), .pointer (some ⟨B1, 0, none⟩)] w (DoneD (SlopeG ((b - a) / (d - c))) w) := by
  have hb0 : Below w.heap.size w (w.alloc (pObj ⟨#[]⟩ ⟨#[]⟩)) := (Below.refl _ w).alloc (Nat.le_refl _) _
  have HB0 := Lib.hid hb0
  have HR := Lib.hid (rise_to hc ha hd hb h1 h2 h3 hp _ (hT.below hb0 (Nat.le_refl _)))
  have HH3 := Lib.hid h3
  have la := (Array.getElem?_eq_some_iff.1 hA).1
  have lb := (Array.getElem?_eq_some_iff.1 hB).1
  have a0 : (w.alloc (pObj ⟨#[]⟩ ⟨#[]⟩)).cell? ⟨A1, 0, none⟩ = some (.string s0) := (cell_old _ _ _ la).trans (known_cell hA 0 rfl)
  have a1 : (w.alloc (pObj ⟨#[]⟩ ⟨#[]⟩)).cell? ⟨A1, 1, none⟩ = some (.string t0) := (cell_old _ _ _ la).trans (known_cell hA 1 rfl)
  have a2 : (w.alloc (pObj ⟨#[]⟩ ⟨#[]⟩)).cell? ⟨A1, 2, none⟩ = some (.string u0) := (cell_old _ _ _ la).trans (known_cell hA 2 rfl)
  have a3 : (w.alloc (pObj ⟨#[]⟩ ⟨#[]⟩)).cell? ⟨A1, 3, none⟩ = some (.string v0) := (cell_old _ _ _ la).trans (known_cell hA 3 rfl)
  have b0 : (w.alloc (pObj ⟨#[]⟩ ⟨#[]⟩)).cell? ⟨B1, 0, none⟩ = some (.string s1) := (cell_old _ _ _ lb).trans (known_cell hB 0 rfl)
  have b1 : (w.alloc (pObj ⟨#[]⟩ ⟨#[]⟩)).cell? ⟨B1, 1, none⟩ = some (.string t1) := (cell_old _ _ _ lb).trans (known_cell hB 1 rfl)
  have b2 : (w.alloc (pObj ⟨#[]⟩ ⟨#[]⟩)).cell? ⟨B1, 2, none⟩ = some (.string u1) := (cell_old _ _ _ lb).trans (known_cell hB 2 rfl)
  have b3 : (w.alloc (pObj ⟨#[]⟩ ⟨#[]⟩)).cell? ⟨B1, 3, none⟩ = some (.string v1) := (cell_old _ _ _ lb).trans (known_cell hB 3 rfl)
  have HP : Hid ((w.alloc (pObj ⟨#[]⟩ ⟨#[]⟩)).heap[w.heap.size]? = some (pObj ⟨#[]⟩ ⟨#[]⟩)) := World.alloc_heap_new w _
  clear hb0 hA hB la lb hc ha hd hb h1 h2 h3 hp hT
  go_enter Tryz.func86, Tryz.ntmps86
  go_wp2_with fail
  refine HR.out.mono ?_
  rintro e w2 ⟨rfl, hb⟩
  have h2 : w2.heap[w.heap.size]? = some (pObj ⟨#[]⟩ ⟨#[]⟩) := (hb.block _ (by simp)).trans HP.out
  have HB2 : Hid (Below w.heap.size w w2) := HB0.out.trans (hb.mono HB0.out.size)
  have H2 := Lib.hid h2
  clear a0 a1 a2 a3 b0 b1 b2 b3 hb HR HP
  have c0 : w2.cell? ⟨w.heap.size, 0, none⟩ = some (.string ⟨#[]⟩) := known_cell h2 0 rfl
  have c1 : w2.cell? ⟨w.heap.size, 1, none⟩ = some (.string ⟨#[]⟩) := known_cell h2 1 rfl
  have f0 : w2.frozen? ⟨w.heap.size, 0, none⟩ = false := known_frozen h2 0
  have f1 : w2.frozen? ⟨w.heap.size, 1, none⟩ = false := known_frozen h2 1
  clear h2
  go_wp2
  obtain ⟨q0, q1⟩ := two_put_cells H2.out (.string x) (.string y)
  exact bodyPost_ret (v := .agg #[.string x, .string y]) (by simp [results, Tryz.f86, go_sem, q0, q1]) rfl ⟨x, y, 0, .inl ⟨rfl, rfl⟩, ⟨rfl, HH3.out⟩, two_put_below HB2.out (Nat.le_refl _) (.string x) (.string y)⟩
set_option maxRecDepth 100000 in
set_option maxHeartbeats 8000000 in
theorem dSlope_any {v : Value} {bs : List BB} {w : World} {s t : ByteArray} (hv : BL w v bs) (hz : LimB bs) (hs : s.size ≤ 1000000) (ht : t.size ≤ 1000000) (hD : DetV w) (hT : Tabs w) :
    Calls Tryz.prog 38 #[v, .agg #[.string s, .string t]] w (PartPost (SlopeA bs s t) w) := by
  obtain ⟨n, hn⟩ : ∃ n, bs.length = n := ⟨_, rfl⟩
  obtain ⟨p, c, rfl⟩ : ∃ p c, v = .slice p n c := by obtain ⟨p, c, h, _⟩ := id hv; exact ⟨_, _, by rw [← hn]; exact h⟩
  clear hn
  obtain ⟨w3, hw3⟩ : ∃ z, (w.alloc (pObj s t)).alloc (pObj ⟨#[]⟩ ⟨#[]⟩) = z := ⟨_, rfl⟩
  have hs3 : w3.heap.size = w.heap.size + 2 := by rw [← hw3]; simp
  have HX : Hid (Boxes w.heap.size [pObj s t, pObj ⟨#[]⟩ ⟨#[]⟩] w3) := by rw [← hw3]; exact Boxes.two w _ _
  have HB3 : Hid (Below w.heap.size w w3) := by rw [← hw3]; exact ((Below.refl _ w).alloc (Nat.le_refl _) _).alloc (by simp) _
  have hb4 : Below w3.heap.size w3 (w3.alloc (.cells #[.string s, .string t] 46)) := (Below.refl _ w3).alloc (Nat.le_refl _) _
  have HB4 : Hid (Below w.heap.size w (w3.alloc (.cells #[.string s, .string t] 46))) := HB3.out.trans (hb4.mono HB3.out.size)
  have hlim : LimP [(s, t)] := fun p hp => by
    rw [List.mem_singleton] at hp
    subst hp
    exact ⟨hs, ht⟩
  have HR := Lib.hid (dright_any (hv.after HB4.out (Nat.le_refl _)) hz (pl_single w3 s t) hlim (hD.below HB4.out (Nat.le_refl _)) (hT.below HB4.out (Nat.le_refl _)))
  rw [hs3] at HR
  have HX4 := Lib.hid (HX.out.below hb4 (by rw [hs3]; exact Nat.le_refl _))
  have HV := Lib.hid hv
  have HT := Lib.hid hT
  have HD := Lib.hid hD
  have d0 : w3.cell? ⟨w.heap.size, 0, none⟩ = some (.string s) := HX.out.cell 0 0 rfl rfl rfl
  have d1 : w3.cell? ⟨w.heap.size, 1, none⟩ = some (.string t) := HX.out.cell 0 1 rfl rfl rfl
  have hs3' := hs3
  rw [← hw3] at d0 d1 HR HX4 HB4 hs3'
  clear hv hz hD hT hb4 hw3 hs hs3 HB3 HX hlim ht
  go_enter Tryz.func38, Tryz.ntmps38
  go_wp2_with fail
  refine HR.out.mono ?_
  rintro e w5 ⟨hE, hb⟩
  have HX5 := Lib.hid (HX4.out.below hb (by simp))
  have HB5 := Lib.hid (HB4.out.trans (hb.mono HB4.out.size))
  clear d0 d1 hb HR HX4 HB4 hs3'
  have hl5 := HX5.out.lt
  rcases hE with ⟨hr, rfl⟩ | ⟨hr, rfl⟩
  · have HRP := Lib.hid (rightP_one.1 hr)
    have hsm := isP_small (rightP_one.1 hr).2
    have HSM := Lib.hid hsm
    have d0 : w5.cell? ⟨w.heap.size, 0, none⟩ = some (.string s) := HX5.out.cell 0 0 rfl rfl rfl
    have d1 : w5.cell? ⟨w.heap.size, 1, none⟩ = some (.string t) := HX5.out.cell 0 1 rfl rfl rfl
    have HPC := Lib.hid (piece_any (HV.out.after HB5.out (Nat.le_refl _)) HRP.out.1 hsm.1)
    clear hr hsm
    go_wp2_with fail
    refine HPC.out.mono ?_
    rintro e w6 ⟨i, j, inn, he, hA, hb⟩
    have HB6 := Lib.hid (HB5.out.trans (hb.mono HB5.out.size))
    have HX6 := Lib.hid (HX5.out.below hb (by simpa using hl5))
    obtain ⟨q0, hq0⟩ : ∃ q, bAt bs i = q := ⟨_, rfl⟩
    obtain ⟨q1, hq1⟩ : ∃ q, bAt bs j = q := ⟨_, rfl⟩
    have HQ0 := Lib.hid hq0
    have HQ1 := Lib.hid hq1
    rw [hq0, hq1] at he
    obtain ⟨⟨s0, t0⟩, u0, v0⟩ := q0
    obtain ⟨⟨s1, t1⟩, u1, v1⟩ := q1
    subst he
    clear d0 d1 hb HPC hq0 hq1 HX5 HB5 hl5
    obtain ⟨A, hAs⟩ : ∃ A, w6.heap.size = A := ⟨_, rfl⟩
    obtain ⟨w7, hw7⟩ : ∃ z, (w6.alloc (bO s0 t0 u0 v0)).alloc (bO s1 t1 u1 v1) = z := ⟨_, rfl⟩
    have hal : Below w6.heap.size w6 w7 := by rw [← hw7]; exact ((Below.refl _ w6).alloc (Nat.le_refl _) _).alloc (by simp) _
    have HB7 : Hid (Below w.heap.size w w7) := HB6.out.trans (hal.mono HB6.out.size)
    have HX7 := Lib.hid (HX6.out.below hal HX6.out.lt)
    have HY7 : Hid (Boxes A [bO s0 t0 u0 v0, bO s1 t1 u1 v1] w7) := by rw [← hw7, ← hAs]; exact Boxes.two w6 _ _
    have c0 : w7.cell? ⟨w.heap.size + 1, 0, none⟩ = some (.string ⟨#[]⟩) := HX7.out.cell 1 0 rfl rfl rfl
    have c1 : w7.cell? ⟨w.heap.size + 1, 1, none⟩ = some (.string ⟨#[]⟩) := HX7.out.cell 1 1 rfl rfl rfl
    have f0 : w7.frozen? ⟨w.heap.size + 1, 0, none⟩ = false := HX7.out.free 1 0 rfl rfl
    have f1 : w7.frozen? ⟨w.heap.size + 1, 1, none⟩ = false := HX7.out.free 1 1 rfl rfl
    rcases hA with ⟨hp, ⟨hi, rfl, rfl⟩ | ⟨hi, rfl, rfl⟩⟩
    · have hC := HRP.out.1
      obtain ⟨⟨x1, y1, j1⟩, ⟨x2, y2, j2⟩, ⟨x, y, j3⟩, j4⟩ := slope_isP hC hi
      have hC0 := (hC.isC (i := i) (by omega)).1
      have hH0 := (hC.isH (i := i) (by omega)).1
      have hC1 := (hC.isC (i := i + 1) hi).1
      have hH1 := (hC.isH (i := i + 1) hi).1
      rw [HQ0.out] at hC0 hH0
      rw [HQ1.out] at hC1 hH1
      have HA : Hid (SlopeA bs s t x y 0) := by
        refine .inr ⟨HRP.out, rfl, _, ⟨i, hp, rfl⟩, ?_⟩
        unfold slo
        rw [if_pos hi]
        exact j3
      have HTR : Hid (Calls Tryz.prog 68 #[.func (.func 86) #[] #[.pointer (some ⟨A, 0, none⟩), .pointer (some ⟨A + 1, 0, none⟩)]] w7 (PartPost (SlopeG ((hR bs (i + 1) - hR bs i) / (cR bs (i + 1) - cR bs i))) w7)) :=
        dtried_any (enters_of Tryz.func86 (by kernel_rfl) rfl) fun W hW => by
          have hx := HY7.out.below hW HY7.out.lt
          have hbw := HB7.out.trans (hW.mono HB7.out.size)
          exact slope1_any A (A + 1) (hx.block 0 rfl rfl) (hx.block 1 rfl rfl) hC0 hH0 hC1 hH1 j1 j2 j3 j4 (HT.out.below hbw (Nat.le_refl _))
      have HJ3 : Hid (IsP ((hR bs (i + 1) - hR bs i) / (cR bs (i + 1) - cR bs i)) x y) := j3
      clear j1 j2 j3 j4 hC hC0 hH0 hC1 hH1 hp hi hal
      go_wp2_with fail
      refine HTR.out.mono ?_
      rintro e w8 ⟨x', y', m, rfl, ⟨rfl, hA⟩, hb⟩
      obtain ⟨rfl, rfl⟩ := isP_one' hA HJ3.out rfl
      have HX8 := Lib.hid (HX7.out.below hb HX7.out.lt)
      have HB8 := Lib.hid (HB7.out.trans (hb.mono HB7.out.size))
      clear c0 c1 f0 f1 hb hA HTR hw7 hAs
      have c0 : w8.cell? ⟨w.heap.size + 1, 0, none⟩ = some (.string ⟨#[]⟩) := HX8.out.cell 1 0 rfl rfl rfl
      have c1 : w8.cell? ⟨w.heap.size + 1, 1, none⟩ = some (.string ⟨#[]⟩) := HX8.out.cell 1 1 rfl rfl rfl
      have f0 : w8.frozen? ⟨w.heap.size + 1, 0, none⟩ = false := HX8.out.free 1 0 rfl rfl
      have f1 : w8.frozen? ⟨w.heap.size + 1, 1, none⟩ = false := HX8.out.free 1 1 rfl rfl
      go_wp2
      obtain ⟨q0, q1⟩ := two_put_cells (HX8.out.block 1 (b := w.heap.size + 1) rfl rfl) (.string x') (.string y')
      exact bodyPost_ret (v := .tuple #[.agg #[.string x', .string y'], .int .i64 0]) (by simp [results, Tryz.f38, go_sem, q0, q1]) rfl ⟨x', y', 0, rfl, HA.out, two_put_below HB8.out (by show _ ≤ _; omega) (.string x') (.string y')⟩
    · have HA : Hid (SlopeA bs s t ⟨#[48]⟩ ⟨#[49]⟩ 0) := by
        refine .inr ⟨HRP.out, rfl, _, ⟨j, hp, rfl⟩, ?_⟩
        unfold slo
        rw [if_neg (by omega)]
        exact isP_zero
      have z0 := (HD.out.below HB7.out (Nat.le_refl _)).z0
      have z1 := (HD.out.below HB7.out (Nat.le_refl _)).z1
      clear hp hi hal
      go_wp2
      obtain ⟨q0, q1⟩ := two_put_cells (HX7.out.block 1 (b := w.heap.size + 1) rfl rfl) (.string ⟨#[48]⟩) (.string ⟨#[49]⟩)
      exact bodyPost_ret (v := .tuple #[.agg #[.string ⟨#[48]⟩, .string ⟨#[49]⟩], .int .i64 0]) (by simp [results, Tryz.f38, go_sem, q0, q1]) rfl ⟨⟨#[48]⟩, ⟨#[49]⟩, 0, rfl, HA.out, two_put_below HB7.out (by show _ ≤ _; omega) (.string ⟨#[48]⟩) (.string ⟨#[49]⟩)⟩
  · have HA : Hid (SlopeA bs s t ⟨#[]⟩ ⟨#[]⟩ 2) := .inl ⟨fun h => hr (rightP_one.2 h), rfl, rfl, rfl⟩
    have c0 : w5.cell? ⟨w.heap.size + 1, 0, none⟩ = some (.string ⟨#[]⟩) := HX5.out.cell 1 0 rfl rfl rfl
    have c1 : w5.cell? ⟨w.heap.size + 1, 1, none⟩ = some (.string ⟨#[]⟩) := HX5.out.cell 1 1 rfl rfl rfl
    have f0 : w5.frozen? ⟨w.heap.size + 1, 0, none⟩ = false := HX5.out.free 1 0 rfl rfl
    have f1 : w5.frozen? ⟨w.heap.size + 1, 1, none⟩ = false := HX5.out.free 1 1 rfl rfl
    clear hr HV HT hl5
    go_wp2
    obtain ⟨q0, q1⟩ := two_put_cells (HX5.out.block 1 (b := w.heap.size + 1) rfl rfl) (.string ⟨#[]⟩) (.string ⟨#[]⟩)
    exact bodyPost_ret (v := .tuple #[.agg #[.string ⟨#[]⟩, .string ⟨#[]⟩], .int .i64 2]) (by simp [results, Tryz.f38, go_sem, q0, q1]) rfl ⟨⟨#[]⟩, ⟨#[]⟩, 2, rfl, HA.out, two_put_below HB5.out (by show _ ≤ _; omega) (.string ⟨#[]⟩) (.string ⟨#[]⟩)⟩
end Go.Proofs.YtcncdepjbhnknaaGreatDoor
/- Chances with a known answer; sizes of what the laws reckon of them. -/
namespace Go.Proofs.YtcncdepjbhnknaaGreatDoor
open Go.RowKit Go.Shelf

theorem isP_smallP {q : Rat} {s t : ByteArray} {k : Nat} (h : IsP q s t) (hz : Sz k q) (h0 : 0 < k) : smallP k (s, t) = true := by
  refine smallP_iff.2 ⟨?_, ?_, h.ok⟩
  · show s.size ≤ k
    rw [h.num, str_size]
    exact decDigits_length_le h0 hz.1
  · show t.size ≤ k
    rw [h.den, str_size]
    exact decDigits_length_le h0 hz.2
theorem chance_sizek {bs : List BB} {q r : Rat} {k : Nat} (h : CurveP bs) (hq0 : 0 ≤ q) (hz : Sz k q) (hr : ChanceR bs.length (cR bs) (hR bs) q r) : Sz (k + 109) r := by
  obtain ⟨i, hk, rfl⟩ := hr
  by_cases hi : i + 1 < bs.length
  · have := (lin_size h.conc' h.sizes.1 h.sizes.2 hq0 hz hi hk).2.2.2.2.2
    exact this.mono (by omega)
  · have e : lin bs.length (cR bs) (hR bs) i q = hR bs i := by
      unfold lin slo
      rw [if_neg hi]
      grind
    rw [e]
    exact (h.sizes.2 i hk.1).mono (by omega)
/-- The chance of a coverage, as a fraction. -/
theorem chance_ex {bs : List BB} {q : Rat} {k : Nat} (h : CurveP bs) (hq0 : 0 ≤ q) (hz : Sz k q) (hk : k ≤ 300) : ∃ r x y, ChanceR bs.length (cR bs) (hR bs) q r ∧ IsP r x y ∧ Sz (k + 109) r ∧ 0 ≤ r ∧ r ≤ 1 := by
  obtain ⟨r, hr⟩ := chanceR_exists h q
  have hs := chance_sizek h hq0 hz hr
  have h0 := hr.nn h.conc' hq0
  obtain ⟨x, y, hx⟩ := sz_isP' h0 hs (by omega) (by omega)
  exact ⟨r, x, y, hr, hx, hs, h0, hr.top h.conc'⟩
theorem chance_to {v : Value} {bs : List BB} {w : World} {q r : Rat} {s t x y : ByteArray} (hv : BL w v bs) (hC : CurveP bs) (hz : LimB bs) (hq : IsP q s t) (hs : Sz 300 q) (hr : ChanceR bs.length (cR bs) (hR bs) q r) (hx : IsP r x y) (hD : DetV w) (hT : Tabs w) :
    Calls Tryz.prog 28 #[v, pV s t] w (ValPost (.tuple #[pV x y, .int .i64 0]) w) := by
  refine (dChance_any hv hz hq.limit.1 hq.limit.2 hD hT).mono ?_
  rintro e w' ⟨u, u2, n, rfl, h, hb⟩
  rcases h with ⟨h, _⟩ | ⟨_, rfl, r', h1, h2⟩
  · exact absurd ⟨hC, isP_smallP hq hs (by decide)⟩ h
  · rw [hq.rat] at h1
    obtain ⟨e1, e2⟩ := isP_one' h2 hx (h1.unique hr)
    subst e1 e2
    exact ⟨rfl, hb⟩
theorem slope_ex {bs : List BB} {q : Rat} (h : CurveP bs) : ∃ r x y, SlopeR bs.length (cR bs) (hR bs) q r ∧ IsP r x y ∧ Sz 72 r ∧ 0 ≤ r := by
  obtain ⟨c, i, hi, _⟩ := chanceR_exists h q
  by_cases hk : i + 1 < bs.length
  · obtain ⟨a1, a2, a3, a4, a5, a6⟩ := slp_size h.conc' h.sizes.1 h.sizes.2 hk
    obtain ⟨x, y, hx⟩ := sz_isP' a5 a6 (by decide) (by decide)
    refine ⟨_, x, y, ⟨i, hi, rfl⟩, ?_, ?_, ?_⟩ <;> (unfold slo; rw [if_pos hk]; assumption)
  · refine ⟨_, ⟨#[48]⟩, ⟨#[49]⟩, ⟨i, hi, rfl⟩, ?_, ?_, ?_⟩ <;> (unfold slo; rw [if_neg hk])
    · exact isP_zero
    · exact ⟨by decide +kernel, by decide +kernel⟩
    · exact Rat.le_refl
theorem slope_to {v : Value} {bs : List BB} {w : World} {q r : Rat} {s t x y : ByteArray} (hv : BL w v bs) (hC : CurveP bs) (hz : LimB bs) (hq : IsP q s t) (hs : Sz 300 q) (hr : SlopeR bs.length (cR bs) (hR bs) q r) (hx : IsP r x y) (hD : DetV w) (hT : Tabs w) :
    Calls Tryz.prog 38 #[v, pV s t] w (ValPost (.tuple #[pV x y, .int .i64 0]) w) := by
  refine (dSlope_any hv hz hq.limit.1 hq.limit.2 hD hT).mono ?_
  rintro e w' ⟨u, u2, n, rfl, h, hb⟩
  rcases h with ⟨h, _⟩ | ⟨_, rfl, r', h1, h2⟩
  · exact absurd ⟨hC, isP_smallP hq hs (by decide)⟩ h
  · rw [hq.rat] at h1
    obtain ⟨e1, e2⟩ := isP_one' h2 hx (h1.unique hr)
    subst e1 e2
    exact ⟨rfl, hb⟩
theorem half_isP : IsP (mkRat (1 : Nat) 2) (⟨#[49]⟩ : ByteArray) (⟨#[50]⟩ : ByteArray) := isP_dec (by decide +kernel)
theorem half_sz : Sz 1 (mkRat (1 : Nat) 2) := ⟨by decide +kernel, by decide +kernel⟩
theorem half_nn : 0 ≤ mkRat (1 : Nat) 2 := by decide +kernel
theorem half_two (q : Rat) : q * mkRat (1 : Nat) 2 + q * mkRat (1 : Nat) 2 = q := by
  have e : mkRat (1 : Nat) 2 = 1 / 2 := by decide +kernel
  rw [e]
  grind
end Go.Proofs.YtcncdepjbhnknaaGreatDoor
