/- The parts Updated, Made, Ratio, LawOf, LawShort of a proof, put together by program (merge.py). -/
import Derived.Test.YthbpadjhlkdpeaaGreatDoorG15
import Derived.Test.YthbpadjhlkdpeaaGreatDoorG08
import Derived.Test.YthbpadjhlkdpeaaGreatDoorG10
/- weight's Update. -/
namespace Go.Proofs.YthbpadjhlkdpeaaGreatDoor
open Go.RowKit Go.Shelf

def rats (ps : List PP) : List Rat := ps.map fun p => ratP p.1 p.2
theorem isL_rats {ps : List PP} (h : ∀ p ∈ ps, okP p.1 p.2 = true) : IsL (rats ps) ps := by
  refine ⟨by simp [rats], fun k h1 h2 => ?_⟩
  simp only [rats, List.getElem_map]
  exact isP_of_ok (h _ (List.getElem_mem h2))
theorem IsL.rats {qs : List Rat} {ps : List PP} (h : IsL qs ps) : Go.Proofs.YthbpadjhlkdpeaaGreatDoor.rats ps = qs := by
  refine List.ext_getElem (by simp [Go.Proofs.YthbpadjhlkdpeaaGreatDoor.rats, h.1]) fun k h1 h2 => ?_
  simp only [Go.Proofs.YthbpadjhlkdpeaaGreatDoor.rats, List.getElem_map]
  exact (h.2 k h2 (by rw [← h.1]; exact h2)).rat

theorem chkL_zero {ls : List (List PP)} (h : chkL ls = 0) : (∀ l ∈ ls, l.length ≤ 512) ∧ ∀ l ∈ ls, ∀ p ∈ l, okP p.1 p.2 = true := by
  unfold chkL at h
  split at h
  · cases h
  · rename_i h1
    split at h
    · rename_i h2
      rw [Bool.not_eq_true, List.any_eq_false] at h1
      refine ⟨fun l hl => ?_, fun l hl p hp => ?_⟩
      · have := h1 l hl
        simp at this; omega
      · have := List.all_eq_true.1 h2 l hl
        exact List.all_eq_true.1 this p hp
    · cases h
theorem pairE_zero {ps os : List PP} (h : pairE ps os = 0) : ps.length ≤ 512 ∧ os.length = ps.length ∧ (∀ p ∈ ps, okP p.1 p.2 = true) ∧ ∀ p ∈ os, okP p.1 p.2 = true := by
  unfold pairE at h
  split at h
  · rename_i h1
    split at h
    · rename_i h2
      obtain ⟨h3, h4⟩ := chkL_zero h1
      exact ⟨h3 ps (by simp), h2.symm, h4 ps (by simp), h4 os (by simp)⟩
    · cases h
  · rename_i h1; exact absurd h h1

def emptyPart : Value := .agg #[.string ⟨#[]⟩, .string ⟨#[]⟩]
/-- What Update answers. -/
def UpdPost (ps os : List PP) (w : World) (e : Ending) (w' : World) : Prop :=
  Below w.heap.size w w' ∧ ((pairE ps os ≠ 0 ∧ e = .returned (.tuple #[.slice none 0 0, emptyPart, .int .i64 (pairE ps os)])) ∨
    (pairE ps os = 0 ∧ ((∃ s z us v x y, updA (rats ps) (rats os) = .ok (s, z) ∧ IsL s us ∧ IsP z x y ∧ PL w' v us ∧ e = .returned (.tuple #[v, .agg #[.string x, .string y], .int .i64 0])) ∨
      (∃ n, updA (rats ps) (rats os) = .error n ∧ e = .returned (.tuple #[.slice none 0 0, emptyPart, .int .i64 n])))))

theorem PL.put {w w' : World} {v : Value} {us : List PP} {B : Nat} (h : Own w B v us) (hk : ∀ g, B ≤ g → g < w.heap.size → w'.heap[g]? = w.heap[g]?) : PL w' v us := by
  refine (h.kept fun g hg hv => hk g hg ?_).pl
  exact (World.ownsRow.lt h g hv).2

theorem upd_put {B : Nat} {u v a0 : Value} {x0 y0 : ByteArray} {w W : World} (h : Boxes B (UpdBoxes u v a0 x0 y0) W) (hb : Below B w W) (a : Value) (x y : ByteArray) :
    Boxes B (UpdBoxes u v a x y) (((W.setCell ⟨B + 1 + 1, 0, none⟩ a).setCell ⟨B + 1 + 1 + 1, 0, none⟩ (.string x)).setCell ⟨B + 1 + 1 + 1, 1, none⟩ (.string y)) ∧
    Below B w (((W.setCell ⟨B + 1 + 1, 0, none⟩ a).setCell ⟨B + 1 + 1 + 1, 0, none⟩ (.string x)).setCell ⟨B + 1 + 1 + 1, 1, none⟩ (.string y)) :=
  ⟨((h.store 2 0 rfl a rfl).store 3 0 rfl (.string x) rfl).store 3 1 rfl (.string y) rfl,
    ((hb.setCell (p := ⟨B + 1 + 1, 0, none⟩) (by show B ≤ B + 1 + 1; omega) a).setCell (p := ⟨B + 1 + 1 + 1, 0, none⟩) (by show B ≤ B + 1 + 1 + 1; omega) (.string x)).setCell (p := ⟨B + 1 + 1 + 1, 1, none⟩) (by show B ≤ B + 1 + 1 + 1; omega) (.string y)⟩


set_option maxRecDepth 100000 in
set_option maxHeartbeats 4000000 in
theorem update_any {u v : Value} {ps os : List PP} {w : World} (hu : PL w u ps) (hv : PL w v os) (hsm : ps.length ≤ 512 → os.length ≤ 512 → ∀ p ∈ ps ++ os, p.1.size ≤ 1000000 ∧ p.2.size ≤ 1000000) (hT : Tabs w) :
    Calls Tryz.prog 24 #[u, v] w (UpdPost ps os w) := by
  have hent := enters_of Tryz.func74 (by kernel_rfl) rfl
  have hmf : ∀ (fn : Fn) (first cap : Array Value) (w : World), (Instr.makeFunc fn first cap).run Tryz.prog w = .ok (.func fn first cap) w := fun _ _ _ _ => rfl
  obtain ⟨p1, n1, c1, rfl⟩ : ∃ p n c, u = .slice p n c := by obtain ⟨p, c, h, _⟩ := hu; exact ⟨_, _, _, h⟩
  obtain ⟨p2, n2, c2, rfl⟩ : ∃ p n c, v = .slice p n c := by obtain ⟨p, c, h, _⟩ := hv; exact ⟨_, _, _, h⟩
  have HU := Lib.hid hu
  have HV := Lib.hid hv
  have HT := Lib.hid hT
  have HSM := Lib.hid hsm
  have HENT := Lib.hid hent
  clear hu hv hT hsm hent
  go_enter Tryz.func24, Tryz.ntmps24
  go_wp2_with fail
  obtain ⟨w1, hw1⟩ : ∃ w1, (((w.alloc (.cells #[.slice p1 n1 c1] 34)).alloc (.cells #[.slice p2 n2 c2] 34)).alloc (.cells #[.slice none 0 0] 34)).alloc (.cells #[.string ⟨#[]⟩, .string ⟨#[]⟩] 24) = w1 := ⟨_, rfl⟩
  rw [hw1]
  have HX1 : Hid (Boxes w.heap.size (UpdBoxes (.slice p1 n1 c1) (.slice p2 n2 c2) (.slice none 0 0) ⟨#[]⟩ ⟨#[]⟩) w1) := by rw [← hw1]; exact Boxes.four w _ _ _ _
  have HB1 : Hid (Below w.heap.size w w1) := by rw [← hw1]; exact ((((Below.refl _ w).alloc (Nat.le_refl _) _).alloc (by simp) _).alloc (by simp <;> omega) _).alloc (by simp <;> omega) _
  clear hw1
  refine (paired_any (HU.out.after HB1.out (Nat.le_refl _)) (HV.out.after HB1.out (Nat.le_refl _)) HSM.out).mono ?_
  rintro e w2 ⟨rfl, hb2⟩
  have HB2 := Lib.hid (HB1.out.trans (hb2.mono HB1.out.size))
  have HX2 := Lib.hid (HX1.out.below hb2 HX1.out.lt)
  clear hb2
  obtain ⟨c, hc⟩ : ∃ c, pairE ps os = c := ⟨_, rfl⟩
  rw [hc]
  by_cases h0 : c = 0
  · have hz : (c != 0) = false := by rw [bne_eq_false_iff_eq]; exact h0
    have HC : Hid (pairE ps os = 0) := by show _ = _; rw [hc, h0]
    obtain ⟨g1, g2, g3, g4⟩ := pairE_zero HC.out
    have HQ1 := Lib.hid (isL_rats g3)
    have HQ2 := Lib.hid (isL_rats g4)
    have HG : Hid (os.length = ps.length ∧ ps.length ≤ 600) := ⟨g2, by omega⟩
    clear h0 hc g1 g2 g3 g4
    go_wp2_with fail
    have hal := (Below.refl w2.heap.size w2).alloc (Nat.le_refl _) (.cells #[.int .i64 0] 27)
    have hB3 := HB2.out.trans (hal.mono HB2.out.size)
    refine (tried_any (w := w2) HENT.out (update1_any (E := w2.heap.size) HQ1.out HQ2.out (HU.out.after hB3 (Nat.le_refl _)) (HV.out.after hB3 (Nat.le_refl _)) HG.out.1 HG.out.2 (HT.out.below hB3 (Nat.le_refl _)) (HX2.out.alloc _) (World.alloc_heap_new w2 _) HX2.out.lt)).mono ?_
    rintro e w3 ⟨w4, n, rfl, hk, hlt, hQ⟩
    clear hal
    have HW4 : Hid (∃ a x y, Boxes w.heap.size (UpdBoxes (.slice p1 n1 c1) (.slice p2 n2 c2) a x y) w4 ∧ Below w.heap.size (w2.alloc (.cells #[.int .i64 0] 27)) w4 ∧
        ((∃ s z us, n = 0 ∧ updA (rats ps) (rats os) = .ok (s, z) ∧ IsL s us ∧ IsP z x y ∧ Own w4 (w2.heap.size + 1) a us) ∨ (updA (rats ps) (rats os) = .error n ∧ a = .slice none 0 0 ∧ x = ⟨#[]⟩ ∧ y = ⟨#[]⟩))) := by
      rcases hQ with ⟨h1, s, z, us, a, x, y, h2, h3, h4, h5, h6, h7⟩ | ⟨h1, h2, h3⟩
      · exact ⟨a, x, y, h6, h7, .inl ⟨s, z, us, h1, h2, h3, h4, h5⟩⟩
      · exact ⟨_, _, _, h2, h3, .inr ⟨h1, rfl, rfl, rfl⟩⟩
    clear hQ
    obtain ⟨a, x, y, hx4, hb4, hres⟩ := HW4.out
    have HX3 := Lib.hid (hx4.keeps hk (fun i hi => by have : i < 4 := hi; have := HX2.out.lt; have h4 : w.heap.size + 4 ≤ w2.heap.size := this; omega))
    have hsz2 := HB2.out.size
    have HB3 : Hid (Below w.heap.size w w3) := by
      have h5 : Below w.heap.size w w4 := (HB2.out.alloc hsz2 _).trans hb4
      exact h5.trans ⟨hk.os, hk.tape, hk.output, hk.size, fun b hb => hk.block b (by have := h5.size; omega) (by omega)⟩
    have HO3 : Hid ((∃ s z us, n = 0 ∧ updA (rats ps) (rats os) = .ok (s, z) ∧ IsL s us ∧ IsP z x y ∧ Own w3 (w2.heap.size + 1) a us) ∨ (updA (rats ps) (rats os) = .error n ∧ a = .slice none 0 0 ∧ x = ⟨#[]⟩ ∧ y = ⟨#[]⟩)) := by
      rcases hres with ⟨s, z, us, h1, h2, h3, h4, h5⟩ | h
      · exact .inl ⟨s, z, us, h1, h2, h3, h4, h5.kept fun g hg hv => hk.block g (World.ownsRow.lt h5 g hv).2 (by omega)⟩
      · exact .inr h
    have hform : ∃ p n c, a = .slice p n c := by
      rcases hres with ⟨s, z, us, h1, h2, h3, h4, h5⟩ | ⟨_, h, _⟩
      · obtain ⟨p, c, h, _⟩ := h5.pl; exact ⟨_, _, _, h⟩
      · exact ⟨_, _, _, h⟩
    obtain ⟨pa, na, ca, rfl⟩ := hform
    have HL3 : Hid (w2.heap.size < w3.heap.size ∧ w.heap.size + 4 ≤ w2.heap.size) := ⟨Nat.lt_of_lt_of_le hlt hk.size, HX2.out.lt⟩
    clear hk hx4 hb4 hres hlt hB3 HW4
    have q0 := HX3.out.cell 2 0 (b := w.heap.size + 1 + 1) rfl rfl rfl
    have f0 := HX3.out.free 2 0 (b := w.heap.size + 1 + 1) rfl rfl
    have r0 := HX3.out.cell 3 0 (b := w.heap.size + 1 + 1 + 1) rfl rfl rfl
    have r1 := HX3.out.cell 3 1 (b := w.heap.size + 1 + 1 + 1) rfl rfl rfl
    have f1 := HX3.out.free 3 0 (b := w.heap.size + 1 + 1 + 1) rfl rfl
    have f2 := HX3.out.free 3 1 (b := w.heap.size + 1 + 1 + 1) rfl rfl
    go_wp2_with fail
    refine steps_plain [(true, 0), (true, 1), (true, 2), (false, 3), (false, 4), (false, 5)] (fun w' => w'.cell? ⟨w.heap.size + 1 + 1, 0, none⟩ = some (.slice pa na ca) ∧ w'.cell? ⟨w.heap.size + 1 + 1 + 1, 0, none⟩ = some (.string x) ∧ w'.cell? ⟨w.heap.size + 1 + 1 + 1, 1, none⟩ = some (.string y)) (fun _ => false)
      (by kernel_rfl) (by kernel_rfl) (fun _ _ => rfl) (fun _ _ o _ _ h => by cases o <;> exact h) ⟨q0, r0, r1⟩ ?_
    iterate 3
      refine steps_read _ rfl rfl (fun w' hS => by obtain ⟨s1, s2, s3⟩ := hS; go_simp; rfl) ?_
      simp only [Act.put, List.setIfInBounds_toArray, List.set_cons_zero, List.set_cons_succ]
    have HX4 := Lib.hid (HX3.out.store 2 0 (b := w.heap.size + 1 + 1) rfl (.slice pa na ca) rfl)
    have hS4 : _ ∧ _ ∧ _ := ⟨HX4.out.cell 2 0 (b := w.heap.size + 1 + 1) rfl rfl rfl, HX4.out.cell 3 0 (b := w.heap.size + 1 + 1 + 1) rfl rfl rfl, HX4.out.cell 3 1 (b := w.heap.size + 1 + 1 + 1) rfl rfl rfl⟩
    have HX5 := Lib.hid ((HX4.out.store 3 0 (b := w.heap.size + 1 + 1 + 1) rfl (.string x) rfl).store 3 1 (b := w.heap.size + 1 + 1 + 1) rfl (.string y) rfl)
    have hS5 : _ ∧ _ ∧ _ := ⟨HX5.out.cell 2 0 (b := w.heap.size + 1 + 1) rfl rfl rfl, HX5.out.cell 3 0 (b := w.heap.size + 1 + 1 + 1) rfl rfl rfl, HX5.out.cell 3 1 (b := w.heap.size + 1 + 1 + 1) rfl rfl rfl⟩
    refine steps_write rfl rfl fun K hK => ?_
    go_simp
    refine hK _ _ (.inr hS4) ?_
    clear hK K
    refine steps_write rfl rfl fun K hK => ?_
    go_simp
    refine hK _ _ (.inr hS5) ?_
    clear hK K
    refine steps_write rfl rfl fun K hK => ?_
    go_simp
    refine hK _ _ (.inr hS5) ?_
    clear hK K hS4 hS5
    refine steps_end ?_
    obtain ⟨hp1, hp2⟩ := upd_put HX3.out HB3.out (.slice pa na ca) x y
    have HK9 : Hid (∀ g, w2.heap.size + 1 ≤ g → ((((w3.setCell ⟨w.heap.size + 1 + 1, 0, none⟩ (.slice pa na ca)).setCell ⟨w.heap.size + 1 + 1 + 1, 0, none⟩ (.string x)).setCell ⟨w.heap.size + 1 + 1 + 1, 1, none⟩ (.string y)).drew).heap[g]? = w3.heap[g]?) := fun g hg => by
      have := HL3.out.2
      exact ((Below.heap_setCell _ ⟨w.heap.size + 1 + 1 + 1, 1, none⟩ _ _ (by simp; omega)).trans (Below.heap_setCell _ ⟨w.heap.size + 1 + 1 + 1, 0, none⟩ _ _ (by simp; omega))).trans (Below.heap_setCell _ ⟨w.heap.size + 1 + 1, 0, none⟩ _ _ (by simp; omega))
    have hp3 : Boxes w.heap.size (UpdBoxes (.slice p1 n1 c1) (.slice p2 n2 c2) (.slice pa na ca) x y) (((w3.setCell ⟨w.heap.size + 1 + 1, 0, none⟩ (.slice pa na ca)).setCell ⟨w.heap.size + 1 + 1 + 1, 0, none⟩ (.string x)).setCell ⟨w.heap.size + 1 + 1 + 1, 1, none⟩ (.string y)).drew := hp1
    have hp4 := hp2.drew
    obtain ⟨w9, hw9⟩ : ∃ w9, (((w3.setCell ⟨w.heap.size + 1 + 1, 0, none⟩ (.slice pa na ca)).setCell ⟨w.heap.size + 1 + 1 + 1, 0, none⟩ (.string x)).setCell ⟨w.heap.size + 1 + 1 + 1, 1, none⟩ (.string y)).drew = w9 := ⟨_, rfl⟩
    rw [hw9] at hp3 hp4 HK9 ⊢
    have s0 := hp3.cell 2 0 (b := w.heap.size + 1 + 1) rfl rfl rfl
    have s1 := hp3.cell 3 0 (b := w.heap.size + 1 + 1 + 1) rfl rfl rfl
    have s2 := hp3.cell 3 1 (b := w.heap.size + 1 + 1 + 1) rfl rfl rfl
    clear q0 f0 r0 r1 f1 f2 hw9 hp1 hp2
    go_wp2
    refine bodyPost_ret (v := .tuple #[.slice pa na ca, .agg #[.string x, .string y], .int .i64 n]) (by simp [results, Tryz.f24, go_sem, s0, s1, s2]) rfl ⟨hp4, .inr ⟨HC.out, ?_⟩⟩
    rcases HO3.out with ⟨s, z, us, h1, h2, h3, h4, h5⟩ | ⟨h1, h2, h3, h4⟩
    · exact .inl ⟨s, z, us, _, x, y, h2, h3, h4, PL.put h5 (fun g hg _ => HK9.out g hg), by rw [h1]⟩
    · exact .inr ⟨n, h1, by rw [h2, h3, h4]; rfl⟩
  · have hz : (c != 0) = true := by rw [bne_iff_ne]; exact h0
    have HC : Hid (pairE ps os = c ∧ c ≠ 0) := ⟨hc, h0⟩
    clear h0 hc
    have q0 := HX2.out.cell 2 0 (b := w.heap.size + 1 + 1) rfl rfl rfl
    have f0 := HX2.out.free 2 0 (b := w.heap.size + 1 + 1) rfl rfl
    have r0 := HX2.out.cell 3 0 (b := w.heap.size + 1 + 1 + 1) rfl rfl rfl
    have r1 := HX2.out.cell 3 1 (b := w.heap.size + 1 + 1 + 1) rfl rfl rfl
    have f1 := HX2.out.free 3 0 (b := w.heap.size + 1 + 1 + 1) rfl rfl
    have f2 := HX2.out.free 3 1 (b := w.heap.size + 1 + 1 + 1) rfl rfl
    go_wp2
    obtain ⟨hp1, hp2⟩ := upd_put HX2.out HB2.out (.slice none 0 0) ⟨#[]⟩ ⟨#[]⟩
    obtain ⟨w9, hw9⟩ : ∃ w9, ((w2.setCell ⟨w.heap.size + 1 + 1, 0, none⟩ (.slice none 0 0)).setCell ⟨w.heap.size + 1 + 1 + 1, 0, none⟩ (.string ⟨#[]⟩)).setCell ⟨w.heap.size + 1 + 1 + 1, 1, none⟩ (.string ⟨#[]⟩) = w9 := ⟨_, rfl⟩
    rw [hw9] at hp1 hp2
    rw [hw9]
    have s0 := hp1.cell 2 0 (b := w.heap.size + 1 + 1) rfl rfl rfl
    have s1 := hp1.cell 3 0 (b := w.heap.size + 1 + 1 + 1) rfl rfl rfl
    have s2 := hp1.cell 3 1 (b := w.heap.size + 1 + 1 + 1) rfl rfl rfl
    have HW9 := Lib.hid hw9
    clear q0 f0 r0 r1 f1 f2 hw9
    refine bodyPost_ret (v := .tuple #[.slice none 0 0, .agg #[.string ⟨#[]⟩, .string ⟨#[]⟩], .int .i64 c]) (by simp [results, Tryz.f24, go_sem, s0, s1, s2]) rfl ⟨hp2, .inl ⟨by rw [HC.out.1]; exact HC.out.2, ?_⟩⟩
    rw [HC.out.1]; rfl
end Go.Proofs.YthbpadjhlkdpeaaGreatDoor
/- weight's Make, Of, Ratio. -/
namespace Go.Proofs.YthbpadjhlkdpeaaGreatDoor
open Go.RowKit Go.Shelf

/-- What Make answers. -/
def Made (s t x y : ByteArray) (e : Int) : Prop :=
  ((natOk s.data.toList && natOk t.data.toList) = false ∧ x = str [] ∧ y = str [] ∧ e = 2) ∨
  ((natOk s.data.toList && natOk t.data.toList) = true ∧ decVal t.data.toList = 0 ∧ x = str [] ∧ y = str [] ∧ e = 10) ∨
  ((natOk s.data.toList && natOk t.data.toList) = true ∧ 0 < decVal t.data.toList ∧ Ans (ratP s t) x y e)



set_option maxRecDepth 100000 in
set_option maxHeartbeats 4000000 in
theorem make_any (s t : ByteArray) (w : World) (hs : s.size ≤ 1000000) (ht : t.size ≤ 1000000) (hT : Tabs w) :
    Calls Tryz.prog 47 #[.string s, .string t] w (PartPost (Made s t) w) := by
  have HT := Lib.hid hT
  clear hT
  cases h1 : natOk s.data.toList
  · have H1 := Lib.hid h1
    clear h1
    go_enter Tryz.func47, Tryz.ntmps47
    go_wp2_with fail
    obtain ⟨w1, hw1⟩ : ∃ w1, w.alloc (.cells #[.string ⟨#[]⟩, .string ⟨#[]⟩] 24) = w1 := ⟨_, rfl⟩
    rw [hw1]
    have HX1 : Hid (Boxes w.heap.size [.cells #[.string ⟨#[]⟩, .string ⟨#[]⟩] 24] w1) := by rw [← hw1]; exact Boxes.one w _
    have HB1 : Hid (Below w.heap.size w w1) := by rw [← hw1]; exact (Below.refl _ w).alloc (Nat.le_refl _) _
    clear hw1
    refine (right_any s _ hs).mono ?_
    rintro e w2 ⟨rfl, hb2⟩
    rw [H1.out]
    have HX2 := Lib.hid (HX1.out.below hb2 HX1.out.lt)
    have HB2 := Lib.hid (HB1.out.trans (hb2.mono HB1.out.size))
    clear hb2
    have r0 := HX2.out.cell 0 0 (b := w.heap.size) rfl rfl rfl
    have r1 := HX2.out.cell 0 1 (b := w.heap.size) rfl rfl rfl
    have f0 := HX2.out.free 0 0 (b := w.heap.size) rfl rfl
    have f1 := HX2.out.free 0 1 (b := w.heap.size) rfl rfl
    go_wp2
    have q := two_put_cells (HX2.out.block 0 (b := w.heap.size) rfl rfl) (.string ⟨#[]⟩) (.string ⟨#[]⟩)
    have HBQ := Lib.hid (two_put_below HB2.out (b := w.heap.size) (by omega) (.string ⟨#[]⟩) (.string ⟨#[]⟩))
    obtain ⟨w9, hw9⟩ : ∃ w9, (w2.setCell ⟨w.heap.size, 0, none⟩ (.string ⟨#[]⟩)).setCell ⟨w.heap.size, 1, none⟩ (.string ⟨#[]⟩) = w9 := ⟨_, rfl⟩
    rw [hw9] at q HBQ
    obtain ⟨q0, q1⟩ := q
    rw [hw9]
    clear r0 r1 f0 f1 hw9
    go_wp2
    refine bodyPost_ret (v := .tuple #[.agg #[.string ⟨#[]⟩, .string ⟨#[]⟩], .int .i64 2]) (by simp [results, Tryz.f47, go_sem, q0, q1]) rfl ⟨_, _, _, rfl, ?_, HBQ.out⟩
    exact .inl ⟨by rw [H1.out]; rfl, rfl, rfl, rfl⟩
  · have H1 := Lib.hid h1
    clear h1
    cases h2 : natOk t.data.toList
    · have H2 := Lib.hid h2
      clear h2
      go_enter Tryz.func47, Tryz.ntmps47
      go_wp2_with fail
      obtain ⟨w1, hw1⟩ : ∃ w1, w.alloc (.cells #[.string ⟨#[]⟩, .string ⟨#[]⟩] 24) = w1 := ⟨_, rfl⟩
      rw [hw1]
      have HX1 : Hid (Boxes w.heap.size [.cells #[.string ⟨#[]⟩, .string ⟨#[]⟩] 24] w1) := by rw [← hw1]; exact Boxes.one w _
      have HB1 : Hid (Below w.heap.size w w1) := by rw [← hw1]; exact (Below.refl _ w).alloc (Nat.le_refl _) _
      clear hw1
      refine (right_any s _ hs).mono ?_
      rintro e w2 ⟨rfl, hb2⟩
      rw [H1.out]
      have HX2 := Lib.hid (HX1.out.below hb2 HX1.out.lt)
      have HB2 := Lib.hid (HB1.out.trans (hb2.mono HB1.out.size))
      clear hb2
      go_wp2_with fail
      refine (right_any t _ ht).mono ?_
      rintro e w3 ⟨rfl, hb3⟩
      rw [H2.out]
      have HX3 := Lib.hid (HX2.out.below hb3 HX2.out.lt)
      have HB3 := Lib.hid (HB2.out.trans (hb3.mono HB2.out.size))
      clear hb3
      have r0 := HX3.out.cell 0 0 (b := w.heap.size) rfl rfl rfl
      have r1 := HX3.out.cell 0 1 (b := w.heap.size) rfl rfl rfl
      have f0 := HX3.out.free 0 0 (b := w.heap.size) rfl rfl
      have f1 := HX3.out.free 0 1 (b := w.heap.size) rfl rfl
      go_wp2
      have q := two_put_cells (HX3.out.block 0 (b := w.heap.size) rfl rfl) (.string ⟨#[]⟩) (.string ⟨#[]⟩)
      have HBQ := Lib.hid (two_put_below HB3.out (b := w.heap.size) (by omega) (.string ⟨#[]⟩) (.string ⟨#[]⟩))
      obtain ⟨w9, hw9⟩ : ∃ w9, (w3.setCell ⟨w.heap.size, 0, none⟩ (.string ⟨#[]⟩)).setCell ⟨w.heap.size, 1, none⟩ (.string ⟨#[]⟩) = w9 := ⟨_, rfl⟩
      rw [hw9] at q HBQ
      obtain ⟨q0, q1⟩ := q
      rw [hw9]
      clear r0 r1 f0 f1 hw9
      go_wp2
      refine bodyPost_ret (v := .tuple #[.agg #[.string ⟨#[]⟩, .string ⟨#[]⟩], .int .i64 2]) (by simp [results, Tryz.f47, go_sem, q0, q1]) rfl ⟨_, _, _, rfl, ?_, HBQ.out⟩
      exact .inl ⟨by rw [H2.out, Bool.and_false], rfl, rfl, rfl⟩
    · have HZ := Lib.hid (zero_iff h2)
      have H2 := Lib.hid h2
      clear h2
      have dl : t.toList = t.data.toList := ByteArray.toList_eq ..
      by_cases h0 : decVal t.data.toList = 0
      · have hz : (t.toList == [48]) = true := by
          rw [dl, HZ.out.2 h0]; rfl
        have H0 := Lib.hid h0
        clear h0 dl
        go_enter Tryz.func47, Tryz.ntmps47
        go_wp2_with fail
        obtain ⟨w1, hw1⟩ : ∃ w1, w.alloc (.cells #[.string ⟨#[]⟩, .string ⟨#[]⟩] 24) = w1 := ⟨_, rfl⟩
        rw [hw1]
        have HX1 : Hid (Boxes w.heap.size [.cells #[.string ⟨#[]⟩, .string ⟨#[]⟩] 24] w1) := by rw [← hw1]; exact Boxes.one w _
        have HB1 : Hid (Below w.heap.size w w1) := by rw [← hw1]; exact (Below.refl _ w).alloc (Nat.le_refl _) _
        clear hw1
        refine (right_any s _ hs).mono ?_
        rintro e w2 ⟨rfl, hb2⟩
        rw [H1.out]
        have HX2 := Lib.hid (HX1.out.below hb2 HX1.out.lt)
        have HB2 := Lib.hid (HB1.out.trans (hb2.mono HB1.out.size))
        clear hb2
        go_wp2_with fail
        refine (right_any t _ ht).mono ?_
        rintro e w3 ⟨rfl, hb3⟩
        rw [H2.out]
        have HX3 := Lib.hid (HX2.out.below hb3 HX2.out.lt)
        have HB3 := Lib.hid (HB2.out.trans (hb3.mono HB2.out.size))
        clear hb3
        have r0 := HX3.out.cell 0 0 (b := w.heap.size) rfl rfl rfl
        have r1 := HX3.out.cell 0 1 (b := w.heap.size) rfl rfl rfl
        have f0 := HX3.out.free 0 0 (b := w.heap.size) rfl rfl
        have f1 := HX3.out.free 0 1 (b := w.heap.size) rfl rfl
        go_wp2
        have q := two_put_cells (HX3.out.block 0 (b := w.heap.size) rfl rfl) (.string ⟨#[]⟩) (.string ⟨#[]⟩)
        have HBQ := Lib.hid (two_put_below HB3.out (b := w.heap.size) (by omega) (.string ⟨#[]⟩) (.string ⟨#[]⟩))
        obtain ⟨w9, hw9⟩ : ∃ w9, (w3.setCell ⟨w.heap.size, 0, none⟩ (.string ⟨#[]⟩)).setCell ⟨w.heap.size, 1, none⟩ (.string ⟨#[]⟩) = w9 := ⟨_, rfl⟩
        rw [hw9] at q HBQ
        obtain ⟨q0, q1⟩ := q
        rw [hw9]
        clear r0 r1 f0 f1 hw9
        go_wp2
        refine bodyPost_ret (v := .tuple #[.agg #[.string ⟨#[]⟩, .string ⟨#[]⟩], .int .i64 10]) (by simp [results, Tryz.f47, go_sem, q0, q1]) rfl ⟨_, _, _, rfl, ?_, HBQ.out⟩
        exact .inr (.inl ⟨by rw [H1.out, H2.out]; rfl, H0.out, rfl, rfl, rfl⟩)
      · have hz : (t.toList == [48]) = false := by
          rw [beq_eq_false_iff_ne, dl]
          intro hc
          refine h0 (HZ.out.1 ?_)
          rw [← str_eq t, hc]; rfl
        have H0 := Lib.hid h0
        clear h0 dl
        obtain ⟨cs1, cs2⟩ := canon_of_nat H1.out
        obtain ⟨ct1, ct2⟩ := canon_of_nat H2.out
        have hls := decVal_lim cs1.dig (j := 70) (by rw [← size_len]; omega)
        have hlt := decVal_lim ct1.dig (j := 70) (by rw [← size_len]; omega)
        have HDS := Lib.hid cs1.dig
        have HDT := Lib.hid ct1.dig
        clear cs1 cs2 ct1 ct2
        go_enter Tryz.func47, Tryz.ntmps47
        go_wp2_with fail
        obtain ⟨w1, hw1⟩ : ∃ w1, w.alloc (.cells #[.string ⟨#[]⟩, .string ⟨#[]⟩] 24) = w1 := ⟨_, rfl⟩
        rw [hw1]
        have HX1 : Hid (Boxes w.heap.size [.cells #[.string ⟨#[]⟩, .string ⟨#[]⟩] 24] w1) := by rw [← hw1]; exact Boxes.one w _
        have HB1 : Hid (Below w.heap.size w w1) := by rw [← hw1]; exact (Below.refl _ w).alloc (Nat.le_refl _) _
        clear hw1
        refine (right_any s _ hs).mono ?_
        rintro e w2 ⟨rfl, hb2⟩
        rw [H1.out]
        have HX2 := Lib.hid (HX1.out.below hb2 HX1.out.lt)
        have HB2 := Lib.hid (HB1.out.trans (hb2.mono HB1.out.size))
        clear hb2
        go_wp2_with fail
        refine (right_any t _ ht).mono ?_
        rintro e w3 ⟨rfl, hb3⟩
        rw [H2.out]
        have HX3 := Lib.hid (HX2.out.below hb3 HX2.out.lt)
        have HB3 := Lib.hid (HB2.out.trans (hb3.mono HB2.out.size))
        clear hb3
        go_wp2_with fail
        refine (of_any s hs HDS.out _).mono ?_
        rintro e w4 ⟨vn, rfl, hN, hb4⟩
        obtain ⟨pn, ln, cn, rfl⟩ := hN.form'
        have HN4 := Lib.hid hN
        have HX4 := Lib.hid (HX3.out.below hb4 HX3.out.lt)
        have HB4 := Lib.hid (HB3.out.trans (hb4.mono HB3.out.size))
        clear hN hb4
        go_wp2_with fail
        refine (of_any t ht HDT.out _).mono ?_
        rintro e w5 ⟨vd, rfl, hD, hb5⟩
        obtain ⟨pd, ld, cd, rfl⟩ := hD.form'
        have HD5 := Lib.hid hD
        have HN5 := Lib.hid (HN4.out.after hb5 (Nat.le_refl _))
        have HX5 := Lib.hid (HX4.out.below hb5 HX4.out.lt)
        have HB5 := Lib.hid (HB4.out.trans (hb5.mono HB4.out.size))
        clear hD hb5
        go_wp2_with fail
        refine (part_any HN5.out HD5.out (by omega) (by omega) (by have := H0.out; omega) (HT.out.below HB5.out (Nat.le_refl _))).mono ?_
        rintro e w6 ⟨x, y, n, rfl, hR, hb6⟩
        have HR := Lib.hid hR
        have HX6 := Lib.hid (HX5.out.below hb6 HX5.out.lt)
        have HB6 := Lib.hid (HB5.out.trans (hb6.mono HB5.out.size))
        clear hR hb6
        have r0 := HX6.out.cell 0 0 (b := w.heap.size) rfl rfl rfl
        have r1 := HX6.out.cell 0 1 (b := w.heap.size) rfl rfl rfl
        have f0 := HX6.out.free 0 0 (b := w.heap.size) rfl rfl
        have f1 := HX6.out.free 0 1 (b := w.heap.size) rfl rfl
        go_wp2
        have q := two_put_cells (HX6.out.block 0 (b := w.heap.size) rfl rfl) (.string x) (.string y)
        have HBQ := Lib.hid (two_put_below HB6.out (b := w.heap.size) (by omega) (.string x) (.string y))
        obtain ⟨w9, hw9⟩ : ∃ w9, (w6.setCell ⟨w.heap.size, 0, none⟩ (.string x)).setCell ⟨w.heap.size, 1, none⟩ (.string y) = w9 := ⟨_, rfl⟩
        rw [hw9] at q HBQ
        obtain ⟨q0, q1⟩ := q
        rw [hw9]
        clear r0 r1 f0 f1 hw9
        go_wp2
        refine bodyPost_ret (v := .tuple #[.agg #[.string x, .string y], .int .i64 n]) (by simp [results, Tryz.f47, go_sem, q0, q1]) rfl ⟨_, _, _, rfl, ?_, HBQ.out⟩
        exact .inr (.inr ⟨by rw [H1.out, H2.out]; rfl, by have := H0.out; omega, HR.out⟩)
end Go.Proofs.YthbpadjhlkdpeaaGreatDoor
/- weight's Of, Ratio. -/
namespace Go.Proofs.YthbpadjhlkdpeaaGreatDoor
open Go.RowKit Go.Shelf

/-- What Of answers. -/
def OfPost (n : Int) (w : World) (e : Ending) (w' : World) : Prop :=
  ∃ s r, e = .returned (.tuple #[.string s, .int .i64 r]) ∧ ((n < 0 ∧ s = str [] ∧ r = 11) ∨ (0 ≤ n ∧ s = str (Lib.decDigits n.toNat) ∧ r = 0)) ∧ Below w.heap.size w w'

theorem itoa_nonneg {n : Int} (h : 0 ≤ n) : Lib.itoa n = Lib.decDigits n.toNat := by
  unfold Lib.itoa
  rw [if_neg (by omega)]

set_option maxRecDepth 100000 in
set_option maxHeartbeats 2000000 in
theorem ofInt_any (n : Int) (h0 : -9223372036854775808 ≤ n) (h1 : n ≤ 9223372036854775807) (w : World) (hT : Tabs w) :
    Calls Tryz.prog 43 #[.int .i64 n] w (OfPost n w) := by
  have HI := Lib.hid (Tryz.strconv_Itoa n h0 h1 w hT)
  have HT := Lib.hid hT
  have H01 := Lib.hid (And.intro h0 h1)
  clear hT h0 h1
  by_cases hn : n < 0
  · go_enter Tryz.func43, Tryz.ntmps43
    go_wp2
    go_ret2
    exact ⟨_, _, rfl, .inl ⟨hn, rfl, rfl⟩, Below.refl _ _⟩
  · go_enter Tryz.func43, Tryz.ntmps43
    go_wp2_with fail
    refine HI.out.mono ?_
    rintro e w2 ⟨rfl, k, os, hw⟩
    have HB : Hid (Below w.heap.size w w2) := by rw [hw]; exact Lib.below_grow _ _ (Nat.le_refl _) _ _
    clear hw
    obtain ⟨s, hs⟩ : ∃ s, (⟨(Lib.itoa n).toArray⟩ : ByteArray) = s := ⟨_, rfl⟩
    rw [hs]
    have HS : Hid (s = str (Lib.decDigits n.toNat)) := by show _ = _; rw [← hs, itoa_nonneg (by omega)]; rfl
    clear hs
    go_wp2
    go_ret2
    exact ⟨_, _, rfl, .inr ⟨by omega, HS.out, rfl⟩, HB.out⟩

/-- What Ratio answers. -/
def RatioR (a b : Int) (x y : ByteArray) (e : Int) : Prop :=
  ((a < 0 ∨ b < 0) ∧ x = str [] ∧ y = str [] ∧ e = 11) ∨ (0 ≤ a ∧ b = 0 ∧ x = str [] ∧ y = str [] ∧ e = 10) ∨ (0 ≤ a ∧ 0 < b ∧ Ans (mkRat (a.toNat : Nat) b.toNat) x y e)

theorem natOk_digits {n : Nat} (h : (Lib.decDigits n).length ≤ 600) : natOk (Lib.decDigits n) = true := natOk_of_canon (canon_decDigits n) h
theorem made_digits {a b : Nat} (ha : (Lib.decDigits a).length ≤ 600) (hb : (Lib.decDigits b).length ≤ 600) {x y : ByteArray} {e : Int} (h : Made (str (Lib.decDigits a)) (str (Lib.decDigits b)) x y e) :
    (b = 0 ∧ x = str [] ∧ y = str [] ∧ e = 10) ∨ (0 < b ∧ Ans (mkRat (a : Nat) b) x y e) := by
  unfold Made ratP at h
  rw [str_data, str_data, natOk_digits ha, natOk_digits hb, decVal_decDigits, decVal_decDigits] at h
  rcases h with ⟨h, _⟩ | ⟨_, h0, h1, h2, h3⟩ | ⟨_, h0, h1⟩
  · cases h
  · exact .inl ⟨h0, h1, h2, h3⟩
  · exact .inr ⟨h0, h1⟩
theorem i64_pow {n : Int} (h : n ≤ 9223372036854775807) : (Lib.decDigits n.toNat).length ≤ 600 := Nat.le_trans (decDigits_length_le (k := 20) (by omega) (by omega)) (by omega)
theorem ratio_made {a b : Int} (h0 : 0 ≤ a) (h1 : 0 ≤ b) (ha : a ≤ 9223372036854775807) (hb : b ≤ 9223372036854775807) {s t x y : ByteArray} {e : Int} (hs : s = str (Lib.decDigits a.toNat)) (ht : t = str (Lib.decDigits b.toNat)) (h : Made s t x y e) : RatioR a b x y e := by
  subst hs; subst ht
  rcases made_digits (i64_pow ha) (i64_pow hb) h with ⟨k1, k2, k3, k4⟩ | ⟨k1, k2⟩
  · exact .inr (.inl ⟨h0, by omega, k2, k3, k4⟩)
  · exact .inr (.inr ⟨h0, by omega, k2⟩)



set_option maxRecDepth 100000 in
set_option maxHeartbeats 4000000 in
theorem ratio_any (a b : Int) (ha0 : -9223372036854775808 ≤ a) (ha1 : a ≤ 9223372036854775807) (hb0 : -9223372036854775808 ≤ b) (hb1 : b ≤ 9223372036854775807) (w : World) (hT : Tabs w) :
    Calls Tryz.prog 49 #[.int .i64 a, .int .i64 b] w (PartPost (RatioR a b) w) := by
  have HT := Lib.hid hT
  clear hT
  go_enter Tryz.func49, Tryz.ntmps49
  go_wp2_with fail
  obtain ⟨w1, hw1⟩ : ∃ w1, w.alloc (.cells #[.string ⟨#[]⟩, .string ⟨#[]⟩] 24) = w1 := ⟨_, rfl⟩
  rw [hw1]
  have HX1 : Hid (Boxes w.heap.size [.cells #[.string ⟨#[]⟩, .string ⟨#[]⟩] 24] w1) := by rw [← hw1]; exact Boxes.one w _
  have HB1 : Hid (Below w.heap.size w w1) := by rw [← hw1]; exact (Below.refl _ w).alloc (Nat.le_refl _) _
  clear hw1
  refine (ofInt_any a ha0 ha1 _ (HT.out.below HB1.out (Nat.le_refl _))).mono ?_
  rintro e w2 ⟨s, r1, rfl, hR1, hb2⟩
  have HX2 := Lib.hid (HX1.out.below hb2 HX1.out.lt)
  have HB2 := Lib.hid (HB1.out.trans (hb2.mono HB1.out.size))
  have HR1 := Lib.hid hR1
  clear hb2 hR1
  go_wp2_with fail
  refine (ofInt_any b hb0 hb1 _ (HT.out.below HB2.out (Nat.le_refl _))).mono ?_
  rintro e w3 ⟨t, r2, rfl, hR2, hb3⟩
  have HX3 := Lib.hid (HX2.out.below hb3 HX2.out.lt)
  have HB3 := Lib.hid (HB2.out.trans (hb3.mono HB2.out.size))
  have HR2 := Lib.hid hR2
  clear hb3 hR2
  by_cases hneg : a < 0 ∨ b < 0
  ·
    have r0 := HX3.out.cell 0 0 (b := w.heap.size) rfl rfl rfl
    have r1 := HX3.out.cell 0 1 (b := w.heap.size) rfl rfl rfl
    have f0 := HX3.out.free 0 0 (b := w.heap.size) rfl rfl
    have f1 := HX3.out.free 0 1 (b := w.heap.size) rfl rfl
    rcases HR1.out with ⟨k1, k2, rfl⟩ | ⟨k1, k2, rfl⟩
    · clear k1 k2
      go_wp2
      have q := two_put_cells (HX3.out.block 0 (b := w.heap.size) rfl rfl) (.string ⟨#[]⟩) (.string ⟨#[]⟩)
      have HBQ := Lib.hid (two_put_below HB3.out (b := w.heap.size) (by omega) (.string ⟨#[]⟩) (.string ⟨#[]⟩))
      obtain ⟨w9, hw9⟩ : ∃ w9, (w3.setCell ⟨w.heap.size, 0, none⟩ (.string ⟨#[]⟩)).setCell ⟨w.heap.size, 1, none⟩ (.string ⟨#[]⟩) = w9 := ⟨_, rfl⟩
      rw [hw9] at q HBQ
      obtain ⟨q0, q1⟩ := q
      rw [hw9]
      clear r0 r1 f0 f1 hw9
      go_wp2
      refine bodyPost_ret (v := .tuple #[.agg #[.string ⟨#[]⟩, .string ⟨#[]⟩], .int .i64 11]) (by simp [results, Tryz.f49, go_sem, q0, q1]) rfl ⟨_, _, _, rfl, ?_, HBQ.out⟩
      exact .inl ⟨hneg, rfl, rfl, rfl⟩
    · rcases HR2.out with ⟨m1, m2, rfl⟩ | ⟨m1, m2, rfl⟩
      · clear k1 k2 m1 m2
        go_wp2
        have q := two_put_cells (HX3.out.block 0 (b := w.heap.size) rfl rfl) (.string ⟨#[]⟩) (.string ⟨#[]⟩)
        have HBQ := Lib.hid (two_put_below HB3.out (b := w.heap.size) (by omega) (.string ⟨#[]⟩) (.string ⟨#[]⟩))
        obtain ⟨w9, hw9⟩ : ∃ w9, (w3.setCell ⟨w.heap.size, 0, none⟩ (.string ⟨#[]⟩)).setCell ⟨w.heap.size, 1, none⟩ (.string ⟨#[]⟩) = w9 := ⟨_, rfl⟩
        rw [hw9] at q HBQ
        obtain ⟨q0, q1⟩ := q
        rw [hw9]
        clear r0 r1 f0 f1 hw9
        go_wp2
        refine bodyPost_ret (v := .tuple #[.agg #[.string ⟨#[]⟩, .string ⟨#[]⟩], .int .i64 11]) (by simp [results, Tryz.f49, go_sem, q0, q1]) rfl ⟨_, _, _, rfl, ?_, HBQ.out⟩
        exact .inl ⟨hneg, rfl, rfl, rfl⟩
      · exfalso; omega
  · have hz : r1 = 0 ∧ r2 = 0 ∧ Hid (s = str (Lib.decDigits a.toNat)) ∧ Hid (t = str (Lib.decDigits b.toNat)) ∧ 0 ≤ a ∧ 0 ≤ b := by
      rcases HR1.out with ⟨k1, k2, k3⟩ | ⟨k1, k2, k3⟩
      · omega
      · rcases HR2.out with ⟨m1, m2, m3⟩ | ⟨m1, m2, m3⟩
        · omega
        · exact ⟨k3, m3, k2, m2, k1, m1⟩
    obtain ⟨rfl, rfl, HS, HU, ka, kb⟩ := hz
    have hs : s.size ≤ 1000000 := by rw [HS.out, str_size]; exact Nat.le_trans (i64_pow ha1) (by omega)
    have ht : t.size ≤ 1000000 := by rw [HU.out, str_size]; exact Nat.le_trans (i64_pow hb1) (by omega)
    clear hneg
    go_wp2_with fail
    refine (make_any s t _ hs ht (HT.out.below HB3.out (Nat.le_refl _))).mono ?_
    rintro e w4 ⟨x, y, n, rfl, hR, hb4⟩
    have HR := Lib.hid hR
    have HX4 := Lib.hid (HX3.out.below hb4 HX3.out.lt)
    have HB4 := Lib.hid (HB3.out.trans (hb4.mono HB3.out.size))
    clear hR hb4
    have r0 := HX4.out.cell 0 0 (b := w.heap.size) rfl rfl rfl
    have r1 := HX4.out.cell 0 1 (b := w.heap.size) rfl rfl rfl
    have f0 := HX4.out.free 0 0 (b := w.heap.size) rfl rfl
    have f1 := HX4.out.free 0 1 (b := w.heap.size) rfl rfl
    go_wp2
    have q := two_put_cells (HX4.out.block 0 (b := w.heap.size) rfl rfl) (.string x) (.string y)
    have HBQ := Lib.hid (two_put_below HB4.out (b := w.heap.size) (by omega) (.string x) (.string y))
    obtain ⟨w9, hw9⟩ : ∃ w9, (w4.setCell ⟨w.heap.size, 0, none⟩ (.string x)).setCell ⟨w.heap.size, 1, none⟩ (.string y) = w9 := ⟨_, rfl⟩
    rw [hw9] at q HBQ
    obtain ⟨q0, q1⟩ := q
    rw [hw9]
    clear r0 r1 f0 f1 hw9
    go_wp2
    refine bodyPost_ret (v := .tuple #[.agg #[.string x, .string y], .int .i64 n]) (by simp [results, Tryz.f49, go_sem, q0, q1]) rfl ⟨_, _, _, rfl, ?_, HBQ.out⟩
    exact ratio_made ka kb ha1 hb1 HS.out HU.out HR.out
end Go.Proofs.YthbpadjhlkdpeaaGreatDoor
/- The law package's of. -/
namespace Go.Proofs.YthbpadjhlkdpeaaGreatDoor
open Go.RowKit Go.Shelf

/-- A fraction's cells, laid anew. -/
abbrev pObj (x y : ByteArray) : Obj := .cells #[.string x, .string y] 24
/-- A call that answers the fraction q. -/
def QPost (q : Rat) (w : World) (e : Ending) (w' : World) : Prop := ∃ x y, e = .returned (.agg #[.string x, .string y]) ∧ IsP q x y ∧ Below w.heap.size w w'

set_option maxRecDepth 100000 in
set_option maxHeartbeats 4000000 in
theorem lawOf (a b : Nat) (hb : 0 < b) (ha1 : a < 1000) (hb1 : b < 1000) (w : World) (hT : Tabs w) :
    Calls Tryz.prog 30 #[.int .i64 a, .int .i64 b] w (QPost (mkRat (a : Nat) b) w) := by
  have HT := Lib.hid hT
  have HF : Hid (Fits (mkRat (a : Nat) b)) := fits_mkRat (k := 3) hb (by omega) (by omega) (by omega) (by omega)
  have HA : Hid (0 < b ∧ a < 1000 ∧ b < 1000) := ⟨hb, ha1, hb1⟩
  clear hT hb ha1 hb1
  go_enter Tryz.func30, Tryz.ntmps30
  go_wp2_with fail
  obtain ⟨w1, hw1⟩ : ∃ w1, w.alloc (.cells #[.string ⟨#[]⟩, .string ⟨#[]⟩] 24) = w1 := ⟨_, rfl⟩
  rw [hw1]
  have HX1 : Hid (Boxes w.heap.size [.cells #[.string ⟨#[]⟩, .string ⟨#[]⟩] 24] w1) := by rw [← hw1]; exact Boxes.one w _
  have HB1 : Hid (Below w.heap.size w w1) := by rw [← hw1]; exact (Below.refl _ w).alloc (Nat.le_refl _) _
  clear hw1
  refine (ratio_any a b (by omega) (by have := HA.out; omega) (by omega) (by have := HA.out; omega) _ (HT.out.below HB1.out (Nat.le_refl _))).mono ?_
  rintro e w2 ⟨x, y, n, rfl, hR, hb2⟩
  have HQ : Hid (IsP (mkRat (a : Nat) b) x y) := by
    have h3 := HA.out
    rcases hR with ⟨h, _⟩ | ⟨_, h, _⟩ | ⟨_, _, h⟩
    · omega
    · omega
    · exact (h.fit HF.out).1
  have HX2 := Lib.hid (HX1.out.below hb2 HX1.out.lt)
  have HB2 := Lib.hid (HB1.out.trans (hb2.mono HB1.out.size))
  clear hb2 hR
  have HX3 := Lib.hid (HX2.out.alloc (.cells #[.string x, .string y] 24))
  have HB3 := Lib.hid (HB2.out.alloc HB2.out.size (.cells #[.string x, .string y] 24))
  have r0 := HX3.out.cell 0 0 (b := w.heap.size) rfl rfl rfl
  have r1 := HX3.out.cell 0 1 (b := w.heap.size) rfl rfl rfl
  have f0 := HX3.out.free 0 0 (b := w.heap.size) rfl rfl
  have f1 := HX3.out.free 0 1 (b := w.heap.size) rfl rfl
  go_wp2
  have q := two_put_cells (HX3.out.block 0 (b := w.heap.size) rfl rfl) (.string x) (.string y)
  have HBQ := Lib.hid (two_put_below HB3.out (b := w.heap.size) (Nat.le_refl _) (.string x) (.string y))
  obtain ⟨w9, hw9⟩ : ∃ w9, ((w2.alloc (.cells #[.string x, .string y] 24)).setCell ⟨w.heap.size, 0, none⟩ (.string x)).setCell ⟨w.heap.size, 1, none⟩ (.string y) = w9 := ⟨_, rfl⟩
  rw [hw9] at q HBQ
  obtain ⟨q0, q1⟩ := q
  rw [hw9]
  clear r0 r1 f0 f1 hw9
  refine bodyPost_ret (v := .agg #[.string x, .string y]) (by simp [results, Tryz.f30, go_sem, q0, q1]) rfl ⟨_, _, rfl, HQ.out, HBQ.out⟩
end Go.Proofs.YthbpadjhlkdpeaaGreatDoor
/- The law package's short. -/
namespace Go.Proofs.YthbpadjhlkdpeaaGreatDoor
open Go.RowKit Go.Shelf

/-- What short answers. -/
def shortB (m : Nat) (ps : List PP) : Bool := ps.all fun p => decide (p.1.size ≤ m) && decide (p.2.size ≤ m)
theorem shortB_iff {m : Nat} {ps : List PP} : shortB m ps = true ↔ ∀ p ∈ ps, p.1.size ≤ m ∧ p.2.size ≤ m := by
  unfold shortB
  rw [List.all_eq_true]
  exact ⟨fun h p hp => by have := h p hp; simpa using this, fun h p hp => by simpa using h p hp⟩
theorem shortB_no {m : Nat} {ps : List PP} {k : Nat} (hk : k < ps.length) (h : ¬ (ps[k].1.size ≤ m ∧ ps[k].2.size ≤ m)) : shortB m ps = false := by
  rw [← Bool.not_eq_true, shortB_iff]
  exact fun hc => h (hc _ (List.getElem_mem hk))
set_option maxRecDepth 100000 in
set_option maxHeartbeats 4000000 in
theorem short_any (m : Nat) (hm : m ≤ 100000) {v : Value} {ps : List PP} {w : World} (hv : PL w v ps) :
    Calls Tryz.prog 16 #[.int .i64 m, v] w (BoolPost w (shortB m ps)) := by
  obtain ⟨p, cap, rfl, hcap, hmax, hp⟩ := hv
  obtain ⟨n, hn⟩ : ∃ n, ps.length = n := ⟨_, rfl⟩
  rw [hn] at hcap ⊢
  unfold maxLen at hmax
  have HN := Lib.hid hn
  have HP := Lib.hid hp
  clear hn hp
  go_enter Tryz.func16, Tryz.ntmps16
  go_wp2
  go_loopw [9] (fun i wr => ∃ (k : Nat), i = .int .i64 k ∧ k ≤ n ∧ Hid (∀ j (h : j < ps.length), j < k → ps[j].1.size ≤ m ∧ ps[j].2.size ≤ m) ∧ Hid (Below w.heap.size w wr)) (fun i _ => n - (intOf i).toNat)
  case atStart => exact ⟨0, rfl, Nat.zero_le _, fun j _ h => by omega, Below.refl _ _⟩
  case round =>
    obtain ⟨k, rfl, hk, HK, HB⟩ := hrel
    obtain ⟨w0, rfl⟩ : ∃ w0 : World, w0 = wr := ⟨_, rfl⟩
    by_cases hlt : k < n
    · obtain ⟨bb, off, rfl, hbl, hat⟩ := HP.out (List.ne_nil_of_length_pos (by rw [HN.out]; omega))
      have hkp : k < ps.length := by rw [HN.out]; exact hlt
      obtain ⟨e0, e1⟩ := (hat.below HB.out hbl) k hkp
      obtain ⟨u, hu⟩ : ∃ u, ps[k].1 = u := ⟨_, rfl⟩
      obtain ⟨v, hv⟩ : ∃ v, ps[k].2 = v := ⟨_, rfl⟩
      rw [hu] at e0
      rw [hv] at e1
      have HL : Hid (k < ps.length) := hkp
      have HU := Lib.hid hu
      have HV := Lib.hid hv
      have HB2 := Lib.hid (HB.out.alloc HB.out.size (.cells #[.string u, .string v] 24))
      clear hat hu hv
      by_cases h1 : (m : Int) < u.size
      · have HQ : Hid (shortB m ps = false) := shortB_no HL.out (by rw [HU.out]; omega)
        go_wp2
        go_ret
        exact ⟨by rw [HQ.out]; rfl, HB2.out⟩
      · by_cases h2 : (m : Int) < v.size
        · have HQ : Hid (shortB m ps = false) := shortB_no HL.out (by rw [HV.out]; omega)
          go_wp2
          go_ret
          exact ⟨by rw [HQ.out]; rfl, HB2.out⟩
        · have HK2 : Hid (∀ j (h : j < ps.length), j < k + 1 → ps[j].1.size ≤ m ∧ ps[j].2.size ≤ m) := fun j h1 h2 => by
            rcases Nat.lt_or_ge j k with h3 | h3
            · exact HK.out j h1 h3
            · obtain rfl : j = k := by omega
              rw [HU.out, HV.out]; omega
          go_wp2
          go_roundw
          case rel => exact ⟨k + 1, by go_num, by omega, HK2, HB2⟩
          case measure => simp [intOf]; omega
    · have HQ : Hid (shortB m ps = true) := shortB_iff.2 fun p hp => by
        obtain ⟨j, hj, rfl⟩ := List.getElem_of_mem hp
        exact HK.out j hj (by rw [HN.out] at hj; omega)
      go_wp2
      go_ret
      exact ⟨by rw [HQ.out]; rfl, HB.out⟩
end Go.Proofs.YthbpadjhlkdpeaaGreatDoor
