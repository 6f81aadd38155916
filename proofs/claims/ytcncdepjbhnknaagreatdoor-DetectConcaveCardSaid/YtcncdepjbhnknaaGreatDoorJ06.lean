/- The parts DMiss, DSlope, ChanceTo of a proof, put together by program (merge6.py). -/
import Derived.Test.YtcncdepjbhnknaaGreatDoorH20
import Derived.Test.YtcncdepjbhnknaaGreatDoorJ01
import Derived.Test.YtcncdepjbhnknaaGreatDoorJ05
import Derived.Test.YtcncdepjbhnknaaGreatDoorH15
set_option linter.unusedVariables false
set_option linter.unusedSimpArgs false
namespace Go.Proofs.YtcncdepjbhnknaaGreatDoor
open Go.RowKit Go.Shelf
attribute [local go_sem ↓] Go.wp_at_zero Go.wp_at_succ

end Go.Proofs.YtcncdepjbhnknaaGreatDoor
namespace Go.Proofs.YtcncdepjbhnknaaGreatDoor
open Go.RowKit Go.Shelf
attribute [local go_sem ↓] Go.wp_at_zero Go.wp_at_succ

def SlopeG (c : Rat) (x y : ByteArray) (n : Int) : Prop := n = 0 ∧ IsP c x y
set_option maxRecDepth 100000 in
set_option maxHeartbeats 4000000 in
theorem slope1_any {w : World} {a b c d : Rat} {s0 t0 u0 v0 s1 t1 u1 v1 x1 y1 x2 y2 x y : ByteArray} (A1 B1 : Nat) (hA : w.heap[A1]? = some (bO s0 t0 u0 v0)) (hB : w.heap[B1]? = some (bO s1 t1 u1 v1))
    (hc : IsP c s0 t0) (ha : IsP a u0 v0) (hd : IsP d s1 t1) (hb : IsP b u1 v1) (h1 : IsP (b - a) x1 y1) (h2 : IsP (d - c) x2 y2) (h3 : IsP ((b - a) / (d - c)) x y) (hp : 0 < d - c) (hT : Tabs w) :
    Calls Tryz.prog 86 #[.pointer (some ⟨A1, 0, none⟩), .pointer (some ⟨B1, 0, none⟩)] w (DoneD (SlopeG ((b - a) / (d - c))) w) := by
  have hb0 : Below w.heap.size w (w.alloc (pObj ⟨#[]⟩ ⟨#[]⟩)) := (Below.refl _ w).alloc (Nat.le_refl _) _
  have HB0 := Lib.hid hb0
  have HR := Lib.hid (rise_to hc ha hd hb h1 h2 h3 hp _ (hT.below hb0 (Nat.le_refl _)))
  have HH3 := Lib.hid h3
  have la := (Array.getElem?_eq_some_iff.1 hA).1
  have lb := (Array.getElem?_eq_some_iff.1 hB).1
  have a0 : (w.alloc (pObj ⟨#[]⟩ ⟨#[]⟩)).cell? ⟨A1, 0, none⟩ = some (.string s0) := (cell_old _ _ _ la).trans (known_cell hA 0 rfl)
  have a1 : (w.alloc (pObj ⟨#[]⟩ ⟨#[]⟩)).cell? ⟨A1, 1, none⟩ = some (.string t0) := (cell_old _ _ _ la).trans (known_cell hA 1 rfl)
  have a2 : (w.alloc (pObj ⟨#[]⟩ ⟨#[]⟩)).cell? ⟨A1, 2, none⟩ = some (.string u0) := (cell_old _ _ _ la).trans (known_cell hA 2 rfl)
  have a3 : (w.alloc (pObj ⟨#[]⟩ ⟨#[]⟩)).cell? ⟨A1, 3, none⟩ = some (.string v0) := (cell_old _ _ _ la).trans (known_cell hA 3 rfl)
  have b0 : (w.alloc (pObj ⟨#[]⟩ ⟨#[]⟩)).cell? ⟨B1, 0, none⟩ = some (.string s1) := (cell_old _ _ _ lb).trans (known_cell hB 0 rfl)
  have b1 : (w.alloc (pObj ⟨#[]⟩ ⟨#[]⟩)).cell? ⟨B1, 1, none⟩ = some (.string t1) := (cell_old _ _ _ lb).trans (known_cell hB 1 rfl)
  have b2 : (w.alloc (pObj ⟨#[]⟩ ⟨#[]⟩)).cell? ⟨B1, 2, none⟩ = some (.string u1) := (cell_old _ _ _ lb).trans (known_cell hB 2 rfl)
  have b3 : (w.alloc (pObj ⟨#[]⟩ ⟨#[]⟩)).cell? ⟨B1, 3, none⟩ = some (.string v1) := (cell_old _ _ _ lb).trans (known_cell hB 3 rfl)
  have HP : Hid ((w.alloc (pObj ⟨#[]⟩ ⟨#[]⟩)).heap[w.heap.size]? = some (pObj ⟨#[]⟩ ⟨#[]⟩)) := World.alloc_heap_new w _
  clear hb0 hA hB la lb hc ha hd hb h1 h2 h3 hp hT
  go_enter Tryz.func86, Tryz.ntmps86
  go_wp2_with fail
  refine HR.out.mono ?_
  rintro e w2 ⟨rfl, hb⟩
  have h2 : w2.heap[w.heap.size]? = some (pObj ⟨#[]⟩ ⟨#[]⟩) := (hb.block _ (by simp)).trans HP.out
  have HB2 : Hid (Below w.heap.size w w2) := HB0.out.trans (hb.mono HB0.out.size)
  have H2 := Lib.hid h2
  clear a0 a1 a2 a3 b0 b1 b2 b3 hb HR HP
  have c0 : w2.cell? ⟨w.heap.size, 0, none⟩ = some (.string ⟨#[]⟩) := known_cell h2 0 rfl
  have c1 : w2.cell? ⟨w.heap.size, 1, none⟩ = some (.string ⟨#[]⟩) := known_cell h2 1 rfl
  have f0 : w2.frozen? ⟨w.heap.size, 0, none⟩ = false := known_frozen h2 0
  have f1 : w2.frozen? ⟨w.heap.size, 1, none⟩ = false := known_frozen h2 1
  clear h2
  go_wp2
  obtain ⟨q0, q1⟩ := two_put_cells H2.out (.string x) (.string y)
  exact bodyPost_ret (v := .agg #[.string x, .string y]) (by simp [results, Tryz.f86, go_sem, q0, q1]) rfl ⟨x, y, 0, .inl ⟨rfl, rfl⟩, ⟨rfl, HH3.out⟩, two_put_below HB2.out (Nat.le_refl _) (.string x) (.string y)⟩
set_option maxRecDepth 100000 in
set_option maxHeartbeats 8000000 in
theorem dSlope_any {v : Value} {bs : List BB} {w : World} {s t : ByteArray} (hv : BL w v bs) (hz : LimB bs) (hs : s.size ≤ 1000000) (ht : t.size ≤ 1000000) (hD : DetV w) (hT : Tabs w) :
    Calls Tryz.prog 38 #[v, .agg #[.string s, .string t]] w (PartPost (SlopeA bs s t) w) := by
  obtain ⟨n, hn⟩ : ∃ n, bs.length = n := ⟨_, rfl⟩
  obtain ⟨p, c, rfl⟩ : ∃ p c, v = .slice p n c := by obtain ⟨p, c, h, _⟩ := id hv; exact ⟨_, _, by rw [← hn]; exact h⟩
  clear hn
  obtain ⟨w3, hw3⟩ : ∃ z, (w.alloc (pObj s t)).alloc (pObj ⟨#[]⟩ ⟨#[]⟩) = z := ⟨_, rfl⟩
  have hs3 : w3.heap.size = w.heap.size + 2 := by rw [← hw3]; simp
  have HX : Hid (Boxes w.heap.size [pObj s t, pObj ⟨#[]⟩ ⟨#[]⟩] w3) := by rw [← hw3]; exact Boxes.two w _ _
  have HB3 : Hid (Below w.heap.size w w3) := by rw [← hw3]; exact ((Below.refl _ w).alloc (Nat.le_refl _) _).alloc (by simp) _
  have hb4 : Below w3.heap.size w3 (w3.alloc (.cells #[.string s, .string t] 46)) := (Below.refl _ w3).alloc (Nat.le_refl _) _
  have HB4 : Hid (Below w.heap.size w (w3.alloc (.cells #[.string s, .string t] 46))) := HB3.out.trans (hb4.mono HB3.out.size)
  have hlim : LimP [(s, t)] := fun p hp => by
    rw [List.mem_singleton] at hp
    subst hp
    exact ⟨hs, ht⟩
  have HR := Lib.hid (dright_any (hv.after HB4.out (Nat.le_refl _)) hz (pl_single w3 s t) hlim (hD.below HB4.out (Nat.le_refl _)) (hT.below HB4.out (Nat.le_refl _)))
  rw [hs3] at HR
  have HX4 := Lib.hid (HX.out.below hb4 (by rw [hs3]; exact Nat.le_refl _))
  have HV := Lib.hid hv
  have HT := Lib.hid hT
  have HD := Lib.hid hD
  have d0 : w3.cell? ⟨w.heap.size, 0, none⟩ = some (.string s) := HX.out.cell 0 0 rfl rfl rfl
  have d1 : w3.cell? ⟨w.heap.size, 1, none⟩ = some (.string t) := HX.out.cell 0 1 rfl rfl rfl
  have hs3' := hs3
  rw [← hw3] at d0 d1 HR HX4 HB4 hs3'
  clear hv hz hD hT hb4 hw3 hs hs3 HB3 HX hlim ht
  go_enter Tryz.func38, Tryz.ntmps38
  go_wp2_with fail
  refine HR.out.mono ?_
  rintro e w5 ⟨hE, hb⟩
  have HX5 := Lib.hid (HX4.out.below hb (by simp))
  have HB5 := Lib.hid (HB4.out.trans (hb.mono HB4.out.size))
  clear d0 d1 hb HR HX4 HB4 hs3'
  have hl5 := HX5.out.lt
  rcases hE with ⟨hr, rfl⟩ | ⟨hr, rfl⟩
  · have HRP := Lib.hid (rightP_one.1 hr)
    have hsm := isP_small (rightP_one.1 hr).2
    have HSM := Lib.hid hsm
    have d0 : w5.cell? ⟨w.heap.size, 0, none⟩ = some (.string s) := HX5.out.cell 0 0 rfl rfl rfl
    have d1 : w5.cell? ⟨w.heap.size, 1, none⟩ = some (.string t) := HX5.out.cell 0 1 rfl rfl rfl
    have HPC := Lib.hid (piece_any (HV.out.after HB5.out (Nat.le_refl _)) HRP.out.1 hsm.1)
    clear hr hsm
    go_wp2_with fail
    refine HPC.out.mono ?_
    rintro e w6 ⟨i, j, inn, he, hA, hb⟩
    have HB6 := Lib.hid (HB5.out.trans (hb.mono HB5.out.size))
    have HX6 := Lib.hid (HX5.out.below hb (by simpa using hl5))
    obtain ⟨q0, hq0⟩ : ∃ q, bAt bs i = q := ⟨_, rfl⟩
    obtain ⟨q1, hq1⟩ : ∃ q, bAt bs j = q := ⟨_, rfl⟩
    have HQ0 := Lib.hid hq0
    have HQ1 := Lib.hid hq1
    rw [hq0, hq1] at he
    obtain ⟨⟨s0, t0⟩, u0, v0⟩ := q0
    obtain ⟨⟨s1, t1⟩, u1, v1⟩ := q1
    subst he
    clear d0 d1 hb HPC hq0 hq1 HX5 HB5 hl5
    obtain ⟨A, hAs⟩ : ∃ A, w6.heap.size = A := ⟨_, rfl⟩
    obtain ⟨w7, hw7⟩ : ∃ z, (w6.alloc (bO s0 t0 u0 v0)).alloc (bO s1 t1 u1 v1) = z := ⟨_, rfl⟩
    have hal : Below w6.heap.size w6 w7 := by rw [← hw7]; exact ((Below.refl _ w6).alloc (Nat.le_refl _) _).alloc (by simp) _
    have HB7 : Hid (Below w.heap.size w w7) := HB6.out.trans (hal.mono HB6.out.size)
    have HX7 := Lib.hid (HX6.out.below hal HX6.out.lt)
    have HY7 : Hid (Boxes A [bO s0 t0 u0 v0, bO s1 t1 u1 v1] w7) := by rw [← hw7, ← hAs]; exact Boxes.two w6 _ _
    have c0 : w7.cell? ⟨w.heap.size + 1, 0, none⟩ = some (.string ⟨#[]⟩) := HX7.out.cell 1 0 rfl rfl rfl
    have c1 : w7.cell? ⟨w.heap.size + 1, 1, none⟩ = some (.string ⟨#[]⟩) := HX7.out.cell 1 1 rfl rfl rfl
    have f0 : w7.frozen? ⟨w.heap.size + 1, 0, none⟩ = false := HX7.out.free 1 0 rfl rfl
    have f1 : w7.frozen? ⟨w.heap.size + 1, 1, none⟩ = false := HX7.out.free 1 1 rfl rfl
    rcases hA with ⟨hp, ⟨hi, rfl, rfl⟩ | ⟨hi, rfl, rfl⟩⟩
    · have hC := HRP.out.1
      obtain ⟨⟨x1, y1, j1⟩, ⟨x2, y2, j2⟩, ⟨x, y, j3⟩, j4⟩ := slope_isP hC hi
      have hC0 := (hC.isC (i := i) (by omega)).1
      have hH0 := (hC.isH (i := i) (by omega)).1
      have hC1 := (hC.isC (i := i + 1) hi).1
      have hH1 := (hC.isH (i := i + 1) hi).1
      rw [HQ0.out] at hC0 hH0
      rw [HQ1.out] at hC1 hH1
      have HA : Hid (SlopeA bs s t x y 0) := by
        refine .inr ⟨HRP.out, rfl, _, ⟨i, hp, rfl⟩, ?_⟩
        unfold slo
        rw [if_pos hi]
        exact j3
      have HTR : Hid (Calls Tryz.prog 68 #[.func (.func 86) #[] #[.pointer (some ⟨A, 0, none⟩), .pointer (some ⟨A + 1, 0, none⟩)]] w7 (PartPost (SlopeG ((hR bs (i + 1) - hR bs i) / (cR bs (i + 1) - cR bs i))) w7)) :=
        dtried_any (enters_of Tryz.func86 (by kernel_rfl) rfl) fun W hW => by
          have hx := HY7.out.below hW HY7.out.lt
          have hbw := HB7.out.trans (hW.mono HB7.out.size)
          exact slope1_any A (A + 1) (hx.block 0 rfl rfl) (hx.block 1 rfl rfl) hC0 hH0 hC1 hH1 j1 j2 j3 j4 (HT.out.below hbw (Nat.le_refl _))
      have HJ3 : Hid (IsP ((hR bs (i + 1) - hR bs i) / (cR bs (i + 1) - cR bs i)) x y) := j3
      clear j1 j2 j3 j4 hC hC0 hH0 hC1 hH1 hp hi hal
      go_wp2_with fail
      refine HTR.out.mono ?_
      rintro e w8 ⟨x', y', m, rfl, ⟨rfl, hA⟩, hb⟩
      obtain ⟨rfl, rfl⟩ := isP_one' hA HJ3.out rfl
      have HX8 := Lib.hid (HX7.out.below hb HX7.out.lt)
      have HB8 := Lib.hid (HB7.out.trans (hb.mono HB7.out.size))
      clear c0 c1 f0 f1 hb hA HTR hw7 hAs
      have c0 : w8.cell? ⟨w.heap.size + 1, 0, none⟩ = some (.string ⟨#[]⟩) := HX8.out.cell 1 0 rfl rfl rfl
      have c1 : w8.cell? ⟨w.heap.size + 1, 1, none⟩ = some (.string ⟨#[]⟩) := HX8.out.cell 1 1 rfl rfl rfl
      have f0 : w8.frozen? ⟨w.heap.size + 1, 0, none⟩ = false := HX8.out.free 1 0 rfl rfl
      have f1 : w8.frozen? ⟨w.heap.size + 1, 1, none⟩ = false := HX8.out.free 1 1 rfl rfl
      go_wp2
      obtain ⟨q0, q1⟩ := two_put_cells (HX8.out.block 1 (b := w.heap.size + 1) rfl rfl) (.string x') (.string y')
      exact bodyPost_ret (v := .tuple #[.agg #[.string x', .string y'], .int .i64 0]) (by simp [results, Tryz.f38, go_sem, q0, q1]) rfl ⟨x', y', 0, rfl, HA.out, two_put_below HB8.out (by show _ ≤ _; omega) (.string x') (.string y')⟩
    · have HA : Hid (SlopeA bs s t ⟨#[48]⟩ ⟨#[49]⟩ 0) := by
        refine .inr ⟨HRP.out, rfl, _, ⟨j, hp, rfl⟩, ?_⟩
        unfold slo
        rw [if_neg (by omega)]
        exact isP_zero
      have z0 := (HD.out.below HB7.out (Nat.le_refl _)).z0
      have z1 := (HD.out.below HB7.out (Nat.le_refl _)).z1
      clear hp hi hal
      go_wp2
      obtain ⟨q0, q1⟩ := two_put_cells (HX7.out.block 1 (b := w.heap.size + 1) rfl rfl) (.string ⟨#[48]⟩) (.string ⟨#[49]⟩)
      exact bodyPost_ret (v := .tuple #[.agg #[.string ⟨#[48]⟩, .string ⟨#[49]⟩], .int .i64 0]) (by simp [results, Tryz.f38, go_sem, q0, q1]) rfl ⟨⟨#[48]⟩, ⟨#[49]⟩, 0, rfl, HA.out, two_put_below HB7.out (by show _ ≤ _; omega) (.string ⟨#[48]⟩) (.string ⟨#[49]⟩)⟩
  · have HA : Hid (SlopeA bs s t ⟨#[]⟩ ⟨#[]⟩ 2) := .inl ⟨fun h => hr (rightP_one.2 h), rfl, rfl, rfl⟩
    have c0 : w5.cell? ⟨w.heap.size + 1, 0, none⟩ = some (.string ⟨#[]⟩) := HX5.out.cell 1 0 rfl rfl rfl
    have c1 : w5.cell? ⟨w.heap.size + 1, 1, none⟩ = some (.string ⟨#[]⟩) := HX5.out.cell 1 1 rfl rfl rfl
    have f0 : w5.frozen? ⟨w.heap.size + 1, 0, none⟩ = false := HX5.out.free 1 0 rfl rfl
    have f1 : w5.frozen? ⟨w.heap.size + 1, 1, none⟩ = false := HX5.out.free 1 1 rfl rfl
    clear hr HV HT hl5
    go_wp2
    obtain ⟨q0, q1⟩ := two_put_cells (HX5.out.block 1 (b := w.heap.size + 1) rfl rfl) (.string ⟨#[]⟩) (.string ⟨#[]⟩)
    exact bodyPost_ret (v := .tuple #[.agg #[.string ⟨#[]⟩, .string ⟨#[]⟩], .int .i64 2]) (by simp [results, Tryz.f38, go_sem, q0, q1]) rfl ⟨⟨#[]⟩, ⟨#[]⟩, 2, rfl, HA.out, two_put_below HB5.out (by show _ ≤ _; omega) (.string ⟨#[]⟩) (.string ⟨#[]⟩)⟩
end Go.Proofs.YtcncdepjbhnknaaGreatDoor
namespace Go.Proofs.YtcncdepjbhnknaaGreatDoor
open Go.RowKit Go.Shelf

theorem isP_smallP {q : Rat} {s t : ByteArray} {k : Nat} (h : IsP q s t) (hz : Sz k q) (h0 : 0 < k) : smallP k (s, t) = true := by
  refine smallP_iff.2 ⟨?_, ?_, h.ok⟩
  · show s.size ≤ k
    rw [h.num, str_size]
    exact decDigits_length_le h0 hz.1
  · show t.size ≤ k
    rw [h.den, str_size]
    exact decDigits_length_le h0 hz.2
theorem chance_sizek {bs : List BB} {q r : Rat} {k : Nat} (h : CurveP bs) (hq0 : 0 ≤ q) (hz : Sz k q) (hr : ChanceR bs.length (cR bs) (hR bs) q r) : Sz (k + 109) r := by
  obtain ⟨i, hk, rfl⟩ := hr
  by_cases hi : i + 1 < bs.length
  · have := (lin_size h.conc' h.sizes.1 h.sizes.2 hq0 hz hi hk).2.2.2.2.2
    exact this.mono (by omega)
  · have e : lin bs.length (cR bs) (hR bs) i q = hR bs i := by
      unfold lin slo
      rw [if_neg hi]
      grind
    rw [e]
    exact (h.sizes.2 i hk.1).mono (by omega)
theorem chance_ex {bs : List BB} {q : Rat} {k : Nat} (h : CurveP bs) (hq0 : 0 ≤ q) (hz : Sz k q) (hk : k ≤ 300) : ∃ r x y, ChanceR bs.length (cR bs) (hR bs) q r ∧ IsP r x y ∧ Sz (k + 109) r ∧ 0 ≤ r ∧ r ≤ 1 := by
  obtain ⟨r, hr⟩ := chanceR_exists h q
  have hs := chance_sizek h hq0 hz hr
  have h0 := hr.nn h.conc' hq0
  obtain ⟨x, y, hx⟩ := sz_isP' h0 hs (by omega) (by omega)
  exact ⟨r, x, y, hr, hx, hs, h0, hr.top h.conc'⟩
theorem chance_to {v : Value} {bs : List BB} {w : World} {q r : Rat} {s t x y : ByteArray} (hv : BL w v bs) (hC : CurveP bs) (hz : LimB bs) (hq : IsP q s t) (hs : Sz 300 q) (hr : ChanceR bs.length (cR bs) (hR bs) q r) (hx : IsP r x y) (hD : DetV w) (hT : Tabs w) :
    Calls Tryz.prog 28 #[v, pV s t] w (ValPost (.tuple #[pV x y, .int .i64 0]) w) := by
  refine (dChance_any hv hz hq.limit.1 hq.limit.2 hD hT).mono ?_
  rintro e w' ⟨u, u2, n, rfl, h, hb⟩
  rcases h with ⟨h, _⟩ | ⟨_, rfl, r', h1, h2⟩
  · exact absurd ⟨hC, isP_smallP hq hs (by decide)⟩ h
  · rw [hq.rat] at h1
    obtain ⟨e1, e2⟩ := isP_one' h2 hx (h1.unique hr)
    subst e1 e2
    exact ⟨rfl, hb⟩
theorem slope_ex {bs : List BB} {q : Rat} (h : CurveP bs) : ∃ r x y, SlopeR bs.length (cR bs) (hR bs) q r ∧ IsP r x y ∧ Sz 72 r ∧ 0 ≤ r := by
  obtain ⟨c, i, hi, _⟩ := chanceR_exists h q
  by_cases hk : i + 1 < bs.length
  · obtain ⟨a1, a2, a3, a4, a5, a6⟩ := slp_size h.conc' h.sizes.1 h.sizes.2 hk
    obtain ⟨x, y, hx⟩ := sz_isP' a5 a6 (by decide) (by decide)
    refine ⟨_, x, y, ⟨i, hi, rfl⟩, ?_, ?_, ?_⟩ <;> (unfold slo; rw [if_pos hk]; assumption)
  · refine ⟨_, ⟨#[48]⟩, ⟨#[49]⟩, ⟨i, hi, rfl⟩, ?_, ?_, ?_⟩ <;> (unfold slo; rw [if_neg hk])
    · exact isP_zero
    · exact ⟨by decide +kernel, by decide +kernel⟩
    · exact Rat.le_refl
theorem slope_to {v : Value} {bs : List BB} {w : World} {q r : Rat} {s t x y : ByteArray} (hv : BL w v bs) (hC : CurveP bs) (hz : LimB bs) (hq : IsP q s t) (hs : Sz 300 q) (hr : SlopeR bs.length (cR bs) (hR bs) q r) (hx : IsP r x y) (hD : DetV w) (hT : Tabs w) :
    Calls Tryz.prog 38 #[v, pV s t] w (ValPost (.tuple #[pV x y, .int .i64 0]) w) := by
  refine (dSlope_any hv hz hq.limit.1 hq.limit.2 hD hT).mono ?_
  rintro e w' ⟨u, u2, n, rfl, h, hb⟩
  rcases h with ⟨h, _⟩ | ⟨_, rfl, r', h1, h2⟩
  · exact absurd ⟨hC, isP_smallP hq hs (by decide)⟩ h
  · rw [hq.rat] at h1
    obtain ⟨e1, e2⟩ := isP_one' h2 hx (h1.unique hr)
    subst e1 e2
    exact ⟨rfl, hb⟩
theorem half_isP : IsP (mkRat (1 : Nat) 2) (⟨#[49]⟩ : ByteArray) (⟨#[50]⟩ : ByteArray) := isP_dec (by decide +kernel)
theorem half_sz : Sz 1 (mkRat (1 : Nat) 2) := ⟨by decide +kernel, by decide +kernel⟩
theorem half_nn : 0 ≤ mkRat (1 : Nat) 2 := by decide +kernel
theorem half_two (q : Rat) : q * mkRat (1 : Nat) 2 + q * mkRat (1 : Nat) 2 = q := by
  have e : mkRat (1 : Nat) 2 = 1 / 2 := by decide +kernel
  rw [e]
  grind
end Go.Proofs.YtcncdepjbhnknaaGreatDoor
