/- The parts Mean, LawLists of a proof, put together by program (merge.py). -/
import Derived.Test.YthbpadjhlkdpeaaGreatDoorG31
import Derived.Test.YthbpadjhlkdpeaaGreatDoorG30
import Derived.Test.YthbpadjhlkdpeaaGreatDoorG29
import Derived.Test.YthbpadjhlkdpeaaGreatDoorG24
/- weight's Mean. -/
namespace Go.Proofs.YthbpadjhlkdpeaaGreatDoor
open Go.RowKit Go.Shelf

/-- Mean's own boxes. -/
def MeanBoxes (u v : Value) (x y : ByteArray) : List Obj := [.cells #[u] 34, .cells #[v] 34, .cells #[.string x, .string y] 24]
def MeanQ (B : Nat) (u v : Value) (r : Option Rat) (w w' : World) : Prop := ∃ z x y, r = some z ∧ IsP z x y ∧ Boxes B (MeanBoxes u v x y) w' ∧ Below B w w'
def MeanR (B : Nat) (u v : Value) (r : Option Rat) (w : World) (n : Int) (w' : World) : Prop := n = 4 ∧ r = none ∧ Boxes B (MeanBoxes u v ⟨#[]⟩ ⟨#[]⟩) w' ∧ Below B w w'

set_option maxRecDepth 100000 in
set_option maxHeartbeats 4000000 in
theorem mean1_any {u v : Value} {qs rs : List Rat} {ps os : List PP} {w : World} {B E : Nat} (hq : IsL qs ps) (hr : IsL rs os) (hu : PL w u ps) (hv : PL w v os) (hlen : os.length = ps.length) (hn600 : ps.length ≤ 600) (hT : Tabs w)
    (hbox : Boxes B (MeanBoxes u v ⟨#[]⟩ ⟨#[]⟩) w) (hE : w.heap[E]? = some (.cells #[.int .i64 0] 27 (0, 0))) (hBE : B + 3 ≤ E) :
    Calls Tryz.prog 79 #[.pointer (some ⟨B, 0, none⟩), .pointer (some ⟨B + 1, 0, none⟩), .pointer (some ⟨B + 2, 0, none⟩)] w
      (DoPost E (MeanQ B u v (meanA qs rs) w) (MeanR B u v (meanA qs rs) w)) := by
  have HP := Lib.hid (products_any hq hr hu hv hlen hn600 hT)
  obtain ⟨p1, n1, c1, rfl⟩ : ∃ p n c, u = .slice p n c := by obtain ⟨p, c, h, _⟩ := hu; exact ⟨_, _, _, h⟩
  obtain ⟨p2, n2, c2, rfl⟩ : ∃ p n c, v = .slice p n c := by obtain ⟨p, c, h, _⟩ := hv; exact ⟨_, _, _, h⟩
  have HX := Lib.hid hbox
  have HE := Lib.hid hE
  have HT := Lib.hid hT
  have hEl := (Array.getElem?_eq_some_iff.1 hE).1
  have hBl : B ≤ w.heap.size := by omega
  clear hbox hE hT hq hr hu hv hlen
  go_enter Tryz.func79, Tryz.ntmps79
  have k0 := HX.out.cell 0 0 (b := B) rfl rfl rfl
  have k1 := HX.out.cell 1 0 (b := B + 1) rfl rfl rfl
  go_wp2_with fail
  refine HP.out.mono ?_
  rintro e w2 ⟨hE2, hb2⟩
  have HB2 := Lib.hid hb2
  have HX2 := Lib.hid (HX.out.below hb2 HX.out.lt)
  have HE2 : Hid (w2.heap[E]? = some (.cells #[.int .i64 0] 27 (0, 0))) := (hb2.block E hEl).trans HE.out
  have hs2 := hb2.size
  clear hb2 k0 k1
  rcases hE2 with ⟨ts, us, vl, h1, h2, rfl, h3⟩ | ⟨h1, rfl⟩
  · have HM := Lib.hid (meanA_s h1)
    have HS := Lib.hid (sum_any h2 h3.pl (HT.out.below HB2.out (Nat.le_refl _)))
    obtain ⟨p3, n3, c3, rfl⟩ : ∃ p n c, vl = .slice p n c := by obtain ⟨p, c, h, _⟩ := h3.pl; exact ⟨_, _, _, h⟩
    clear h1 h2 h3
    go_wp2_with fail
    refine HS.out.mono ?_
    rintro e w3 ⟨hE3, hb3⟩
    have HB3 := Lib.hid (HB2.out.trans (hb3.mono HB2.out.size))
    have HX3 := Lib.hid (HX2.out.below hb3 HX2.out.lt)
    have HE3 : Hid (w3.heap[E]? = some (.cells #[.int .i64 0] 27 (0, 0))) := (hb3.block E (by omega)).trans HE2.out
    clear hb3
    rcases hE3 with ⟨z, x, y, h1, h2, rfl⟩ | ⟨h1, rfl⟩
    · have H1 : Hid (meanA qs rs = some z ∧ IsP z x y) := ⟨by rw [HM.out]; exact h1, h2⟩
      clear h1 h2
      have q0 := HX3.out.cell 2 0 (b := B + 2) rfl rfl rfl
      have q1 := HX3.out.cell 2 1 (b := B + 2) rfl rfl rfl
      have f0 := HX3.out.free 2 0 (b := B + 2) rfl rfl
      have f1 := HX3.out.free 2 1 (b := B + 2) rfl rfl
      go_wp2
      have HX7 := (HX3.out.store 2 0 (b := B + 2) rfl (.string x) rfl).store 2 1 (b := B + 2) rfl (.string y) rfl
      refine ⟨rfl, .tuple #[], by simp [results, Tryz.f79, go_sem], .inl ⟨rfl, z, x, y, H1.out.1, H1.out.2, HX7, two_put_below (HB3.out.mono hBl) (by omega) _ _⟩, ?_⟩
      exact ((Below.heap_setCell _ ⟨B + 2, 1, none⟩ _ _ (by simp; omega)).trans (Below.heap_setCell _ ⟨B + 2, 0, none⟩ _ _ (by simp; omega))).trans HE3.out
    · have HR : Hid (meanA qs rs = none) := by show _ = _; rw [HM.out]; exact h1
      clear h1
      unfold Broke
      go_wp2
      exact ⟨rfl, .inr ⟨4, rfl, rfl, HR.out, HX3.out, HB3.out.mono hBl⟩, HE3.out⟩
  · have HR : Hid (meanA qs rs = none) := meanA_n h1
    clear h1
    unfold Broke
    go_wp2
    exact ⟨rfl, .inr ⟨4, rfl, rfl, HR.out, HX2.out, HB2.out.mono hBl⟩, HE2.out⟩

theorem mean_put {B : Nat} {u v : Value} {x0 y0 : ByteArray} {w W : World} (h : Boxes B (MeanBoxes u v x0 y0) W) (hb : Below B w W) (x y : ByteArray) :
    Boxes B (MeanBoxes u v x y) ((W.setCell ⟨B + 1 + 1, 0, none⟩ (.string x)).setCell ⟨B + 1 + 1, 1, none⟩ (.string y)) ∧
    Below B w ((W.setCell ⟨B + 1 + 1, 0, none⟩ (.string x)).setCell ⟨B + 1 + 1, 1, none⟩ (.string y)) :=
  ⟨(h.store 2 0 rfl (.string x) rfl).store 2 1 rfl (.string y) rfl, two_put_below hb (by omega) _ _⟩

set_option maxRecDepth 100000 in
set_option maxHeartbeats 4000000 in
theorem mean_any {u v : Value} {ps os : List PP} {w : World} (hu : PL w u ps) (hv : PL w v os) (hsm : ps.length ≤ 512 → os.length ≤ 512 → ∀ p ∈ ps ++ os, p.1.size ≤ 1000000 ∧ p.2.size ≤ 1000000) (hT : Tabs w) :
    Calls Tryz.prog 26 #[u, v] w (MeanOf ps os w) := by
  have hent := enters_of Tryz.func79 (by kernel_rfl) rfl
  have hmf : ∀ (fn : Fn) (first cap : Array Value) (w : World), (Instr.makeFunc fn first cap).run Tryz.prog w = .ok (.func fn first cap) w := fun _ _ _ _ => rfl
  obtain ⟨p1, n1, c1, rfl⟩ : ∃ p n c, u = .slice p n c := by obtain ⟨p, c, h, _⟩ := hu; exact ⟨_, _, _, h⟩
  obtain ⟨p2, n2, c2, rfl⟩ : ∃ p n c, v = .slice p n c := by obtain ⟨p, c, h, _⟩ := hv; exact ⟨_, _, _, h⟩
  have HU := Lib.hid hu
  have HV := Lib.hid hv
  have HT := Lib.hid hT
  have HSM := Lib.hid hsm
  have HENT := Lib.hid hent
  clear hu hv hT hsm hent
  go_enter Tryz.func26, Tryz.ntmps26
  go_wp2_with fail
  obtain ⟨w1, hw1⟩ : ∃ w1, ((w.alloc (.cells #[.slice p1 n1 c1] 34)).alloc (.cells #[.slice p2 n2 c2] 34)).alloc (.cells #[.string ⟨#[]⟩, .string ⟨#[]⟩] 24) = w1 := ⟨_, rfl⟩
  rw [hw1]
  have HX1 : Hid (Boxes w.heap.size (MeanBoxes (.slice p1 n1 c1) (.slice p2 n2 c2) ⟨#[]⟩ ⟨#[]⟩) w1) := by rw [← hw1]; exact Boxes.three w _ _ _
  have HB1 : Hid (Below w.heap.size w w1) := by rw [← hw1]; exact (((Below.refl _ w).alloc (Nat.le_refl _) _).alloc (by simp) _).alloc (by simp <;> omega) _
  clear hw1
  refine (paired_any (HU.out.after HB1.out (Nat.le_refl _)) (HV.out.after HB1.out (Nat.le_refl _)) HSM.out).mono ?_
  rintro e w2 ⟨rfl, hb2⟩
  have HB2 := Lib.hid (HB1.out.trans (hb2.mono HB1.out.size))
  have HX2 := Lib.hid (HX1.out.below hb2 HX1.out.lt)
  clear hb2
  obtain ⟨c, hc⟩ : ∃ c, pairE ps os = c := ⟨_, rfl⟩
  rw [hc]
  by_cases h0 : c = 0
  · have hz : (c != 0) = false := by rw [bne_eq_false_iff_eq]; exact h0
    have HC : Hid (pairE ps os = 0) := by show _ = _; rw [hc, h0]
    obtain ⟨g1, g2, g3, g4⟩ := pairE_zero HC.out
    have HQ1 := Lib.hid (isL_rats g3)
    have HQ2 := Lib.hid (isL_rats g4)
    have HG : Hid (os.length = ps.length ∧ ps.length ≤ 600) := ⟨g2, by omega⟩
    clear h0 hc g1 g2 g3 g4
    go_wp2_with fail
    have hal := (Below.refl w2.heap.size w2).alloc (Nat.le_refl _) (.cells #[.int .i64 0] 27)
    have hB3 := HB2.out.trans (hal.mono HB2.out.size)
    refine (tried_any (w := w2) HENT.out (mean1_any (E := w2.heap.size) HQ1.out HQ2.out (HU.out.after hB3 (Nat.le_refl _)) (HV.out.after hB3 (Nat.le_refl _)) HG.out.1 HG.out.2 (HT.out.below hB3 (Nat.le_refl _)) (HX2.out.alloc _) (World.alloc_heap_new w2 _) HX2.out.lt)).mono ?_
    rintro e w3 ⟨w4, n, rfl, hk, hlt, hQ⟩
    clear hal
    have HW4 : Hid (∃ x y, Boxes w.heap.size (MeanBoxes (.slice p1 n1 c1) (.slice p2 n2 c2) x y) w4 ∧ Below w.heap.size (w2.alloc (.cells #[.int .i64 0] 27)) w4 ∧
        ((∃ z, n = 0 ∧ meanA (rats ps) (rats os) = some z ∧ IsP z x y) ∨ (n = 4 ∧ meanA (rats ps) (rats os) = none ∧ x = ⟨#[]⟩ ∧ y = ⟨#[]⟩))) := by
      rcases hQ with ⟨h1, z, x, y, h2, h3, h4, h5⟩ | ⟨h0, h1, h2, h3⟩
      · exact ⟨x, y, h4, h5, .inl ⟨z, h1, h2, h3⟩⟩
      · exact ⟨_, _, h2, h3, .inr ⟨h0, h1, rfl, rfl⟩⟩
    clear hQ
    obtain ⟨x, y, hx4, hb4, hres⟩ := HW4.out
    have HX3 := Lib.hid (hx4.keeps hk (fun i hi => by have : i < 3 := hi; have := HX2.out.lt; have h4 : w.heap.size + 3 ≤ w2.heap.size := this; omega))
    have hsz2 := HB2.out.size
    have HB3 : Hid (Below w.heap.size w w3) := by
      have h5 : Below w.heap.size w w4 := (HB2.out.alloc hsz2 _).trans hb4
      exact h5.trans ⟨hk.os, hk.tape, hk.output, hk.size, fun b hb => hk.block b (by have := h5.size; omega) (by omega)⟩
    have HO3 := Lib.hid hres
    clear hk hx4 hb4 hres hlt hB3 HW4
    have r0 := HX3.out.cell 2 0 (b := w.heap.size + 1 + 1) rfl rfl rfl
    have r1 := HX3.out.cell 2 1 (b := w.heap.size + 1 + 1) rfl rfl rfl
    have f1 := HX3.out.free 2 0 (b := w.heap.size + 1 + 1) rfl rfl
    have f2 := HX3.out.free 2 1 (b := w.heap.size + 1 + 1) rfl rfl
    go_wp2
    obtain ⟨hp1, hp2⟩ := mean_put HX3.out HB3.out x y
    obtain ⟨w9, hw9⟩ : ∃ w9, (w3.setCell ⟨w.heap.size + 1 + 1, 0, none⟩ (.string x)).setCell ⟨w.heap.size + 1 + 1, 1, none⟩ (.string y) = w9 := ⟨_, rfl⟩
    rw [hw9] at hp1 hp2
    rw [hw9]
    have s1 := hp1.cell 2 0 (b := w.heap.size + 1 + 1) rfl rfl rfl
    have s2 := hp1.cell 2 1 (b := w.heap.size + 1 + 1) rfl rfl rfl
    clear r0 r1 f1 f2 hw9
    refine bodyPost_ret (v := .tuple #[.agg #[.string x, .string y], .int .i64 n]) (by simp [results, Tryz.f26, go_sem, s1, s2]) rfl ⟨hp2, ?_⟩
    refine .inr ⟨HC.out, ?_⟩
    rcases HO3.out with ⟨z, h1, h2, h3⟩ | ⟨h1, h2, h3, h4⟩
    · exact .inl ⟨z, x, y, h2, h3, by rw [h1]⟩
    · exact .inr ⟨h2, by rw [h1, h3, h4]; rfl⟩
  · have hz : (c != 0) = true := by rw [bne_iff_ne]; exact h0
    have HC : Hid (pairE ps os = c ∧ c ≠ 0) := ⟨hc, h0⟩
    clear h0 hc
    have r0 := HX2.out.cell 2 0 (b := w.heap.size + 1 + 1) rfl rfl rfl
    have r1 := HX2.out.cell 2 1 (b := w.heap.size + 1 + 1) rfl rfl rfl
    have f1 := HX2.out.free 2 0 (b := w.heap.size + 1 + 1) rfl rfl
    have f2 := HX2.out.free 2 1 (b := w.heap.size + 1 + 1) rfl rfl
    go_wp2
    obtain ⟨hp1, hp2⟩ := mean_put HX2.out HB2.out ⟨#[]⟩ ⟨#[]⟩
    obtain ⟨w9, hw9⟩ : ∃ w9, (w2.setCell ⟨w.heap.size + 1 + 1, 0, none⟩ (.string ⟨#[]⟩)).setCell ⟨w.heap.size + 1 + 1, 1, none⟩ (.string ⟨#[]⟩) = w9 := ⟨_, rfl⟩
    rw [hw9] at hp1 hp2
    rw [hw9]
    have s1 := hp1.cell 2 0 (b := w.heap.size + 1 + 1) rfl rfl rfl
    have s2 := hp1.cell 2 1 (b := w.heap.size + 1 + 1) rfl rfl rfl
    clear r0 r1 f1 f2 hw9
    refine bodyPost_ret (v := .tuple #[.agg #[.string ⟨#[]⟩, .string ⟨#[]⟩], .int .i64 c]) (by simp [results, Tryz.f26, go_sem, s1, s2]) rfl ⟨hp2, ?_⟩
    exact .inl ⟨by rw [HC.out.1]; exact HC.out.2, by rw [HC.out.1]; rfl⟩
end Go.Proofs.YthbpadjhlkdpeaaGreatDoor
/- WeightShares' and WeightUpdates' walks. -/
namespace Go.Proofs.YthbpadjhlkdpeaaGreatDoor
open Go.RowKit Go.Shelf

/-- The strings of fractions. -/
def usOf (qs : List Rat) : List PP := qs.map fun q => (str (numD q), str (denD q))
theorem IsL.us {qs : List Rat} {us : List PP} (h : IsL qs us) : us = usOf qs := by
  refine List.ext_getElem (by simp [usOf, h.1]) fun k h1 h2 => ?_
  have := h.2 k (by rw [h.1]; exact h1) h1
  simp only [usOf, List.getElem_map]
  rw [← this.num, ← this.den]
def sumC (ps : List PP) : ByteArray × ByteArray × Int :=
  if chkL [ps] ≠ 0 then (⟨#[]⟩, ⟨#[]⟩, chkL [ps]) else match sumA 0 (rats ps) with
    | some z => (str (numD z), str (denD z), 0)
    | none => (⟨#[]⟩, ⟨#[]⟩, 4)
theorem SumOf.form {ps : List PP} {w w' : World} {e : Ending} (h : SumOf ps w e w') : Below w.heap.size w w' ∧ ∃ x y n, e = .returned (.tuple #[pV x y, .int .i64 n]) ∧ (x, y, n) = sumC ps := by
  refine ⟨h.1, ?_⟩
  rcases h.2 with ⟨hc, rfl⟩ | ⟨hc, ⟨z, x, y, h1, h2, rfl⟩ | ⟨h1, rfl⟩⟩
  · exact ⟨_, _, _, rfl, by unfold sumC; rw [if_pos hc]⟩
  · exact ⟨_, _, _, rfl, by unfold sumC; rw [if_neg (by simp [hc]), h1, h2.num, h2.den]⟩
  · exact ⟨_, _, _, rfl, by unfold sumC; rw [if_neg (by simp [hc]), h1]⟩
def meanC (ps os : List PP) : ByteArray × ByteArray × Int :=
  if pairE ps os ≠ 0 then (⟨#[]⟩, ⟨#[]⟩, pairE ps os) else match meanA (rats ps) (rats os) with
    | some z => (str (numD z), str (denD z), 0)
    | none => (⟨#[]⟩, ⟨#[]⟩, 4)
theorem MeanOf.form {ps os : List PP} {w w' : World} {e : Ending} (h : MeanOf ps os w e w') : Below w.heap.size w w' ∧ ∃ x y n, e = .returned (.tuple #[pV x y, .int .i64 n]) ∧ (x, y, n) = meanC ps os := by
  refine ⟨h.1, ?_⟩
  rcases h.2 with ⟨hc, rfl⟩ | ⟨hc, ⟨z, x, y, h1, h2, rfl⟩ | ⟨h1, rfl⟩⟩
  · exact ⟨_, _, _, rfl, by unfold meanC; rw [if_pos hc]⟩
  · exact ⟨_, _, _, rfl, by unfold meanC; rw [if_neg (by simp [hc]), h1, h2.num, h2.den]⟩
  · exact ⟨_, _, _, rfl, by unfold meanC; rw [if_neg (by simp [hc]), h1]⟩
def shareC (ps : List PP) : List PP × Int :=
  if chkL [ps] ≠ 0 then ([], chkL [ps]) else match shAll (rats ps) with
    | .ok s => (usOf s, 0)
    | .error n => ([], n)
theorem ShareOf.form {ps : List PP} {w w' : World} {e : Ending} (h : ShareOf ps w e w') : Below w.heap.size w w' ∧ ∃ v us n, e = .returned (.tuple #[v, .int .i64 n]) ∧ PL w' v us ∧ (us, n) = shareC ps := by
  refine ⟨h.1, ?_⟩
  rcases h.2 with ⟨hc, rfl⟩ | ⟨hc, ⟨s, us, v, h1, h2, h3, rfl⟩ | ⟨n, h1, rfl⟩⟩
  · exact ⟨_, _, _, rfl, PL.nil _, by unfold shareC; rw [if_pos hc]⟩
  · exact ⟨_, _, _, rfl, h3, by unfold shareC; rw [if_neg (by simp [hc]), h1, h2.us]⟩
  · exact ⟨_, _, _, rfl, PL.nil _, by unfold shareC; rw [if_neg (by simp [hc]), h1]⟩
def updC (ps os : List PP) : List PP × ByteArray × ByteArray × Int :=
  if pairE ps os ≠ 0 then ([], ⟨#[]⟩, ⟨#[]⟩, pairE ps os) else match updA (rats ps) (rats os) with
    | .ok (s, z) => (usOf s, str (numD z), str (denD z), 0)
    | .error n => ([], ⟨#[]⟩, ⟨#[]⟩, n)
theorem UpdPost.form {ps os : List PP} {w w' : World} {e : Ending} (h : UpdPost ps os w e w') : Below w.heap.size w w' ∧ ∃ v us x y n, e = .returned (.tuple #[v, pV x y, .int .i64 n]) ∧ PL w' v us ∧ (us, x, y, n) = updC ps os := by
  refine ⟨h.1, ?_⟩
  rcases h.2 with ⟨hc, rfl⟩ | ⟨hc, ⟨s, z, us, v, x, y, h1, h2, h3, h4, rfl⟩ | ⟨n, h1, rfl⟩⟩
  · exact ⟨_, _, _, _, _, rfl, PL.nil _, by unfold updC; rw [if_pos hc]⟩
  · exact ⟨_, _, _, _, _, rfl, h4, by unfold updC; rw [if_neg (by simp [hc]), h1, h2.us, h3.num, h3.den]⟩
  · exact ⟨_, _, _, _, _, rfl, PL.nil _, by unfold updC; rw [if_neg (by simp [hc]), h1]⟩

/-- More than the statements look at. -/
def longL (ps : List PP) : Bool := longB 40 40 ps && decide (ps.length ≤ 512) || decide (520 < ps.length)
theorem longL_sm {ps : List PP} (h : longL ps = false) (hl : ps.length ≤ 512) : ∀ p ∈ ps, p.1.size ≤ 40 ∧ p.2.size ≤ 40 := by
  unfold longL at h
  rw [Bool.or_eq_false_iff, decide_eq_true hl, Bool.and_true] at h
  exact (longB_le h.1).2
set_option maxRecDepth 100000 in
set_option maxHeartbeats 2000000 in
theorem llong_any {v : Value} {ps : List PP} {w : World} (hv : PL w v ps) : Calls Tryz.prog 23 #[v] w fun e w' => e = .returned (.bool (longL ps)) ∧ w = w' := by
  have hL := rlong_any 40 40 (by decide) (by decide) hv
  obtain ⟨p1, n1, c1, rfl⟩ : ∃ p n c, v = .slice p n c := by obtain ⟨p, c, h, _⟩ := hv; exact ⟨_, _, _, h⟩
  obtain ⟨hn, _, _⟩ := hv.len
  obtain ⟨b, hb⟩ : ∃ b, longB 40 40 ps = b := ⟨_, rfl⟩
  have HQ : Hid (longL ps = (b && decide (n1 ≤ 512) || decide (520 < n1))) := by show _ = _; unfold longL; rw [hb, hn]
  rw [hb] at hL
  clear hb hv hn
  have e1 : decide ((n1 : Int) ≤ 512) = decide (n1 ≤ 512) := by by_cases h : n1 ≤ 512 <;> simp [h] <;> omega
  have e2 : decide ((520 : Int) < n1) = decide (520 < n1) := by by_cases h : 520 < n1 <;> simp [h] <;> omega
  cases b
  · rcases Nat.lt_or_ge 520 n1 with h | h
    · have h2 : (520 : Int) < n1 := by omega
      have HQ2 : Hid (longL ps = true) := by show _ = _; rw [HQ.out, decide_eq_true h]; rfl
      clear e1 e2 h HQ
      go_enter Tryz.func23, Tryz.ntmps23
      go_wp2_with fail
      refine hL.mono ?_
      rintro e w' ⟨rfl, rfl⟩
      go_wp2
      go_ret
      exact ⟨by rw [HQ2.out]; first | rfl | (show Ending.returned (Value.bool (decide ((520 : Int) < n1))) = _; rw [decide_eq_false (by omega)]), rfl⟩
    · have h2 : ¬ (520 : Int) < n1 := by omega
      have HQ2 : Hid (longL ps = false) := by show _ = _; rw [HQ.out, decide_eq_false (show ¬ 520 < n1 by omega)]; simp
      clear e1 e2 h HQ
      go_enter Tryz.func23, Tryz.ntmps23
      go_wp2_with fail
      refine hL.mono ?_
      rintro e w' ⟨rfl, rfl⟩
      go_wp2
      go_ret
      exact ⟨by rw [HQ2.out]; first | rfl | (show Ending.returned (Value.bool (decide ((520 : Int) < n1))) = _; rw [decide_eq_false (by omega)]), rfl⟩
  · rcases Nat.lt_or_ge 520 n1 with h | h
    · have h2 : (520 : Int) < n1 := by omega
      have h3 : ¬ (n1 : Int) ≤ 512 := by omega
      have h4 : decide ((n1 : Int) ≤ 512) = false := decide_eq_false h3
      have HQ2 : Hid (longL ps = true) := by show _ = _; rw [HQ.out, decide_eq_true h, Bool.or_true]
      clear e1 e2 h HQ
      go_enter Tryz.func23, Tryz.ntmps23
      go_wp2_with fail
      refine hL.mono ?_
      rintro e w' ⟨rfl, rfl⟩
      go_wp2
      go_ret
      exact ⟨by rw [HQ2.out]; first | rfl | (show Ending.returned (Value.bool (decide ((520 : Int) < n1))) = _; rw [decide_eq_false (by omega)]), rfl⟩
    · rcases Nat.lt_or_ge 512 n1 with h5 | h5
      · have h2 : ¬ (520 : Int) < n1 := by omega
        have h3 : ¬ (n1 : Int) ≤ 512 := by omega
        have h4 : decide ((n1 : Int) ≤ 512) = false := decide_eq_false h3
        have HQ2 : Hid (longL ps = false) := by show _ = _; rw [HQ.out, decide_eq_false (show ¬ n1 ≤ 512 by omega), decide_eq_false (show ¬ 520 < n1 by omega)]; rfl
        clear e1 e2 h h5 HQ
        go_enter Tryz.func23, Tryz.ntmps23
        go_wp2_with fail
        refine hL.mono ?_
        rintro e w' ⟨rfl, rfl⟩
        go_wp2
        go_ret
        exact ⟨by rw [HQ2.out]; first | rfl | (show Ending.returned (Value.bool (decide ((520 : Int) < n1))) = _; rw [decide_eq_false (by omega)]), rfl⟩
      · have h3 : (n1 : Int) ≤ 512 := by omega
        have HQ2 : Hid (longL ps = true) := by show _ = _; rw [HQ.out, decide_eq_true h5]; rfl
        clear e1 e2 h h5 HQ
        go_enter Tryz.func23, Tryz.ntmps23
        go_wp2_with fail
        refine hL.mono ?_
        rintro e w' ⟨rfl, rfl⟩
        go_wp2
        go_ret
        exact ⟨by rw [HQ2.out]; first | rfl | (show Ending.returned (Value.bool (decide ((520 : Int) < n1))) = _; rw [decide_eq_false (by omega)]), rfl⟩

theorem wpList_append_parts {w : World} {ops : Array Oper} {rest : List Oper} {o : Oper} {a : Act} {Q : Exit → Act → World → Prop} (hgd : o.guard = none) (s x : Operand) (t : TypeId)
    (ho : o.op = .call { callee := .builtin .append, args := #[s, x], argTypes := #[t, t] })
    (base : Nat) (i : TypeInfo) (ht : Tryz.prog.underlying t = some (.slice 24)) (hi : Tryz.prog.info? 24 = some i) (hz : i.zero = some (.agg #[.string ⟨#[]⟩, .string ⟨#[]⟩]))
    (hsize : i.size = 2) (hby : i.bytes = 32)
    (v : Value) (hs : a.eval s = v) (hown : w.ownsRow base 24 2 v 0 [])
    (v2 : Value) (ps : List PP) (hx : a.eval x = v2) (hv2 : PL w v2 ps) (hf : PForm v2)
    (h63 : ps.length ≤ maxLen) (hbytes : ps.length * 32 ≤ 140737488355328) (hbase : base ≤ w.heap.size)
    (h : ∀ v' w', Own w' base v' ps → w.grownBy w' v.ownBlock → wpList Tryz.prog ops Q rest (a.put o.dst v') w') : wpList Tryz.prog ops Q (o :: rest) a w := by
  obtain ⟨p, cap, rfl, h1, h2, h3⟩ := hv2
  rcases hf with hf | ⟨ad, m, c, hf⟩
  · injection hf with e1 e2 e3
    subst e1; subst e3
    obtain rfl : ps = [] := List.eq_nil_of_length_eq_zero e2
    exact wpList_append_own_none hgd s x t ho base 24 i 2 ht hi v 0 [] hs hown hx (h v w hown ⟨rfl, rfl, rfl, Nat.le_refl _, fun _ _ _ => rfl⟩)
  · injection hf with e1 e2 e3
    subst e1
    refine wpList_append_own w hgd s x t ho base 24 i (.agg #[.string ⟨#[]⟩, .string ⟨#[]⟩]) 2 32 ht hi hz hsize hby rfl (by decide) v 0 [] hs hown ad ps.length cap (pcells ps) hx (pcells_length ps) ?_ ?_ (by omega) (by omega) hbase (fun v' w' h5 h6 _ => h v' w' (by show w'.ownsRow _ _ _ _ _ _; simpa using h5) h6)
    · intro j u hu
      have hj : j < (pcells ps).length := by
        rcases Nat.lt_or_ge j (pcells ps).length with h' | h'
        · exact h'
        · rw [List.getElem?_eq_none h'] at hu; cases hu
      rw [pcells_length] at hj
      have hk : j / 2 < ps.length := by omega
      obtain ⟨b, off, hb, _, hat⟩ := h3 (List.ne_nil_of_length_pos (by omega))
      obtain rfl := Option.some.inj hb
      obtain ⟨a1, a2⟩ := hat (j / 2) hk
      obtain ⟨b1, b2⟩ := pcells_at ps (j / 2) hk
      rw [add_lit']
      rcases Nat.mod_two_eq_zero_or_one j with hm | hm
      · have e : j / 2 * 2 = j := by omega
        rw [e] at a1 b1
        rw [b1] at hu
        rw [a1]; exact hu
      · have e : j / 2 * 2 + 1 = j := by omega
        rw [e] at b2
        rw [Nat.add_assoc, e] at a2
        rw [b2] at hu
        rw [a2]; exact hu
    · intro u hu
      obtain ⟨j, hj, rfl⟩ := List.getElem_of_mem hu
      rw [pcells_length] at hj
      have hk : j / 2 < ps.length := by omega
      obtain ⟨b1, b2⟩ := pcells_at ps (j / 2) hk
      rcases Nat.mod_two_eq_zero_or_one j with hm | hm
      · have e : j / 2 * 2 = j := by omega
        rw [e] at b1
        have := (List.getElem?_eq_some_iff.1 b1).2
        rw [this]; rfl
      · have e : j / 2 * 2 + 1 = j := by omega
        rw [e] at b2
        have := (List.getElem?_eq_some_iff.1 b2).2
        rw [this]; rfl


set_option maxRecDepth 100000 in
set_option maxHeartbeats 8000000 in
theorem shares_law {v : Value} {ps : List PP} {w : World} (hv : PL w v ps) (hf : PForm v) (hT : Tabs w) : Calls Tryz.prog 6 #[v] w (BoolPost w true) := by
  obtain ⟨i0, hi, hz0, hz1, hz2⟩ := info_parts info_part
  have hL := llong_any hv
  obtain ⟨p1, n1, c1, rfl⟩ : ∃ p n c, v = .slice p n c := by obtain ⟨p, c, h, _⟩ := hv; exact ⟨_, _, _, h⟩
  have HU := Lib.hid hv
  have HF := Lib.hid hf
  have HT := Lib.hid hT
  clear hv hT hf
  cases h0 : longL ps
  rotate_left
  · rw [h0] at hL
    clear h0
    go_enter Tryz.func6, Tryz.ntmps6
    go_wp2_with fail
    refine hL.mono ?_
    rintro e w1 ⟨rfl, rfl⟩
    go_wp2_with fail
    refine (alive_any _ HT.out).mono ?_
    rintro e w3 ⟨rfl, hb3⟩
    have HB3 := Lib.hid hb3
    clear hb3
    go_wp2
    go_ret
    exact ⟨rfl, HB3.out⟩
  · have hl520 : ps.length ≤ 520 := by
      unfold longL at h0
      rw [Bool.or_eq_false_iff] at h0
      have := of_decide_eq_false h0.2
      omega
    have HSM : Hid (ps.length ≤ 512 → ∀ p ∈ ps, p.1.size ≤ 1000000 ∧ p.2.size ≤ 1000000) := fun h p hp => by have := longL_sm h0 h p hp; omega
    rw [h0] at hL
    clear h0
    go_enter Tryz.func6, Tryz.ntmps6
    go_wp2_with fail
    refine hL.mono ?_
    rintro e w1 ⟨rfl, rfl⟩
    clear hL
    have al := (Below.refl w.heap.size w).alloc (Nat.le_refl _) (.cells #[] 24)
    have hown0 : (w.alloc (.cells #[] 24)).ownsRow w.heap.size 24 2 (.slice (some ⟨w.heap.size, 0, none⟩) 0 0) 0 [] := World.ownsRow_lit w #[] 0 (Nat.le_refl _) (by simp [maxLen]) rfl
    have hUA := HU.out.after al (Nat.le_refl _)
    have hz3 : w.heap.size ≤ (w.alloc (.cells #[] 24)).heap.size := al.size
    have hm1 : ps.length ≤ maxLen := by unfold maxLen; omega
    have hm2 : ps.length * 32 ≤ 140737488355328 := by omega
    go_wp2_with (at_builtin; go_loud (refine wpList_append_parts rfl _ _ 34 rfl w.heap.size i0 Tryz.underlying34 hi hz0 hz1 hz2 _ rfl hown0 _ ps rfl hUA HF.out hm1 hm2 hz3 ?_); intro vo wo hOwn hgrow)
    have HOW := Lib.hid hOwn.pl
    have HBO : Hid (Below w.heap.size w wo) := ((Below.refl w.heap.size w).alloc (Nat.le_refl _) _).grown hgrow (by simp) (fun z hz => by have := (World.ownsRow.lt hown0 z hz).1; exact this)
    clear al hown0 hUA hz3 hm1 hm2 hOwn hgrow
    obtain ⟨pq, nq, cq, rfl⟩ : ∃ p n c, vo = .slice p n c := by obtain ⟨p, c, h, _⟩ := HOW.out; exact ⟨_, _, _, h⟩
    have HUO := Lib.hid (HU.out.after HBO.out (Nat.le_refl _))
    go_wp2_with fail
    refine (sumOf_any HOW.out HSM.out (HT.out.below HBO.out (Nat.le_refl _))).mono ?_
    rintro e w2 hE
    obtain ⟨hb, x, y, n, rfl, hxy⟩ := hE.form
    have HC := Lib.hid hxy
    have HA2 := Lib.hid ((Ats.nil w2).push x y)
    have al := (Below.refl w2.heap.size w2).alloc (Nat.le_refl _) (pObj x y)
    have hb2 := hb.trans (al.mono hb.size)
    have HB2 := Lib.hid (HBO.out.trans (hb2.mono HBO.out.size))
    have HO2 := Lib.hid (HOW.out.after hb2 (Nat.le_refl _))
    have HU2 := Lib.hid (HUO.out.after hb2 (Nat.le_refl _))
    clear hE hb hxy al hb2 HOW HUO HBO
    go_wp2_with fail
    refine (rsum_any HU2.out HSM.out).mono ?_
    rintro e w3 hE
    obtain ⟨hb, x', y', n', rfl, hxy⟩ := hE.form
    obtain ⟨rfl, rfl, rfl⟩ : x' = x ∧ y' = y ∧ n' = n := by
      have h := hxy.trans HC.out.symm
      simpa using h
    have HA3 := Lib.hid ((HA2.out.after hb (Nat.le_refl _)).push x' y')
    have al := (Below.refl w3.heap.size w3).alloc (Nat.le_refl _) (pObj x' y')
    have hb2 := hb.trans (al.mono hb.size)
    have HB3 := Lib.hid (HB2.out.trans (hb2.mono HB2.out.size))
    have HO3 := Lib.hid (HO2.out.after hb2 (Nat.le_refl _))
    have HU3 := Lib.hid (HU2.out.after hb2 (Nat.le_refl _))
    clear hE hb hxy al hb2 HA2 HB2 HO2 HU2
    go_wp2_with fail
    refine (shareOf_any HO3.out HSM.out (HT.out.below HB3.out (Nat.le_refl _))).mono ?_
    rintro e w4 hE
    obtain ⟨hb, vc, cs, m, rfl, hpc, hcs⟩ := hE.form
    obtain ⟨pc, nc, cc, rfl⟩ : ∃ p n c, vc = .slice p n c := by obtain ⟨p, c, h, _⟩ := hpc; exact ⟨_, _, _, h⟩
    have HCS := Lib.hid hcs
    have HPC := Lib.hid hpc
    have HA4 := Lib.hid (HA3.out.after hb (Nat.le_refl _))
    have HB4 := Lib.hid (HB3.out.trans (hb.mono HB3.out.size))
    have HO4 := Lib.hid (HO3.out.after hb (Nat.le_refl _))
    have HU4 := Lib.hid (HU3.out.after hb (Nat.le_refl _))
    clear hE hb hcs hpc HA3 HB3 HO3 HU3
    go_wp2_with fail
    refine (rshare_any HU4.out HSM.out).mono ?_
    rintro e w5 hE
    obtain ⟨hb, vd, ds, m', rfl, hpd, hds⟩ := hE.form
    obtain ⟨pd, nd, cd, rfl⟩ : ∃ p n c, vd = .slice p n c := by obtain ⟨p, c, h, _⟩ := hpd; exact ⟨_, _, _, h⟩
    obtain ⟨rfl, rfl⟩ : ds = cs ∧ m' = m := by
      have h := hds.trans HCS.out.symm
      simpa using h
    have HPD := Lib.hid hpd
    have HPC5 := Lib.hid (HPC.out.after hb (Nat.le_refl _))
    have HA5 := Lib.hid (HA4.out.after hb (Nat.le_refl _))
    have HB5 := Lib.hid (HB4.out.trans (hb.mono HB4.out.size))
    have HO5 := Lib.hid (HO4.out.after hb (Nat.le_refl _))
    have HU5 := Lib.hid (HU4.out.after hb (Nat.le_refl _))
    clear hE hb hds hpd HA4 HB4 HO4 HU4 HPC
    have q0 := HA5.out.c0 1 rfl
    have q1 := HA5.out.c1 1 rfl
    have q2 := HA5.out.c0 0 rfl
    have q3 := HA5.out.c1 0 rfl
    go_wp2_with fail
    refine (same_yes x' y' n' _).mono ?_
    rintro e w6 ⟨rfl, hb⟩
    have HB6 := Lib.hid (HB5.out.trans (hb.mono HB5.out.size))
    have HO6 := Lib.hid (HO5.out.after hb (Nat.le_refl _))
    have HU6 := Lib.hid (HU5.out.after hb (Nat.le_refl _))
    have HPD6 := Lib.hid (HPD.out.after hb (Nat.le_refl _))
    have HPC6 := Lib.hid (HPC5.out.after hb (Nat.le_refl _))
    clear hb HA5 HB5 HO5 HU5 HPD HPC5 q0 q1 q2 q3
    go_wp2_with fail
    refine (same_any HPC6.out HPD6.out).mono ?_
    rintro e w7 ⟨rfl, hb⟩
    have HB7 := Lib.hid (HB6.out.trans (hb.mono HB6.out.size))
    have HO7 := Lib.hid (HO6.out.after hb (Nat.le_refl _))
    have HU7 := Lib.hid (HU6.out.after hb (Nat.le_refl _))
    clear hb HB6 HO6 HU6 HPD6 HPC6
    go_wp2_with fail
    refine (same_any HO7.out HU7.out).mono ?_
    rintro e w8 ⟨rfl, hb⟩
    have HB8 := Lib.hid (HB7.out.trans (hb.mono HB7.out.size))
    clear hb HB7 HO7 HU7
    go_wp2_with fail
    refine (alive_any _ (HT.out.below HB8.out (Nat.le_refl _))).mono ?_
    rintro e w9 ⟨rfl, hb⟩
    have HB9 := Lib.hid (HB8.out.trans (hb.mono HB8.out.size))
    clear hb
    go_wp2
    go_ret
    exact ⟨rfl, HB9.out⟩
end Go.Proofs.YthbpadjhlkdpeaaGreatDoor
