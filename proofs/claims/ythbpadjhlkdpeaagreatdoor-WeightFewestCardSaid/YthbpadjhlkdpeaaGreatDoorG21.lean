/- The parts PubSum, PubShare, Sums of a proof, put together by program (merge.py). -/
import Derived.Test.YthbpadjhlkdpeaaGreatDoorG16
/- weight's Sum. -/
namespace Go.Proofs.YthbpadjhlkdpeaaGreatDoor
open Go.RowKit Go.Shelf

theorem chkL_one {ps : List PP} (h : chkL [ps] = 0) : ps.length ≤ 512 ∧ ∀ p ∈ ps, okP p.1 p.2 = true := by
  obtain ⟨h1, h2⟩ := chkL_zero h
  exact ⟨h1 ps (by simp), h2 ps (by simp)⟩

theorem small_one {ps : List PP} (hsm : ps.length ≤ 512 → ∀ p ∈ ps, p.1.size ≤ 1000000 ∧ p.2.size ≤ 1000000) : (∀ l ∈ [ps], l.length ≤ 512) → ∀ l ∈ [ps], ∀ p ∈ l, p.1.size ≤ 1000000 ∧ p.2.size ≤ 1000000 := fun h l hl => by
  have h1 := h ps (by simp)
  obtain rfl : l = ps := by simpa using hl
  exact hsm h1

/-- Sum's own boxes. -/
def SumBoxes (u : Value) (x y : ByteArray) : List Obj := [.cells #[u] 34, .cells #[.string x, .string y] 24]
def SumQ (B : Nat) (u : Value) (r : Option Rat) (w w' : World) : Prop := ∃ z x y, r = some z ∧ IsP z x y ∧ Boxes B (SumBoxes u x y) w' ∧ Below B w w'
def SumR (B : Nat) (u : Value) (r : Option Rat) (w : World) (n : Int) (w' : World) : Prop := n = 4 ∧ r = none ∧ Boxes B (SumBoxes u ⟨#[]⟩ ⟨#[]⟩) w' ∧ Below B w w'

set_option maxRecDepth 100000 in
set_option maxHeartbeats 4000000 in
theorem sum1f_any {u : Value} {qs : List Rat} {ps : List PP} {w : World} {B E : Nat} (hq : IsL qs ps) (hu : PL w u ps) (hT : Tabs w)
    (hbox : Boxes B (SumBoxes u ⟨#[]⟩ ⟨#[]⟩) w) (hE : w.heap[E]? = some (.cells #[.int .i64 0] 27 (0, 0))) (hBE : B + 2 ≤ E) :
    Calls Tryz.prog 81 #[.pointer (some ⟨B, 0, none⟩), .pointer (some ⟨B + 1, 0, none⟩)] w
      (DoPost E (SumQ B u (sumA 0 qs) w) (SumR B u (sumA 0 qs) w)) := by
  have HP := Lib.hid (sum_any hq hu hT)
  obtain ⟨p1, c1, rfl, _, _, _⟩ := hu
  obtain ⟨n1, hn1⟩ : ∃ n, ps.length = n := ⟨_, rfl⟩
  rw [hn1] at HP hbox ⊢
  have HX := Lib.hid hbox
  have HE := Lib.hid hE
  have hEl := (Array.getElem?_eq_some_iff.1 hE).1
  have hBl : B ≤ w.heap.size := by omega
  clear hbox hE hT hq hn1
  go_enter Tryz.func81, Tryz.ntmps81
  have k0 := HX.out.cell 0 0 (b := B) rfl rfl rfl
  go_wp2_with fail
  refine HP.out.mono ?_
  rintro e w2 ⟨hE2, hb2⟩
  have HB2 := Lib.hid hb2
  have HX2 := Lib.hid (HX.out.below hb2 HX.out.lt)
  have HE2 : Hid (w2.heap[E]? = some (.cells #[.int .i64 0] 27 (0, 0))) := (hb2.block E hEl).trans HE.out
  have hs2 := hb2.size
  clear hb2 k0
  rcases hE2 with ⟨z, x, y, h1, h2, rfl⟩ | ⟨h1, rfl⟩
  · have H1 := Lib.hid (And.intro h1 h2)
    clear h1 h2
    have q0 := HX2.out.cell 1 0 (b := B + 1) rfl rfl rfl
    have q1 := HX2.out.cell 1 1 (b := B + 1) rfl rfl rfl
    have f0 := HX2.out.free 1 0 (b := B + 1) rfl rfl
    have f1 := HX2.out.free 1 1 (b := B + 1) rfl rfl
    go_wp2
    have HX7 := (HX2.out.store 1 0 (b := B + 1) rfl (.string x) rfl).store 1 1 (b := B + 1) rfl (.string y) rfl
    refine ⟨rfl, .tuple #[], by simp [results, Tryz.f81, go_sem], .inl ⟨rfl, z, x, y, H1.out.1, H1.out.2, HX7, two_put_below (HB2.out.mono hBl) (by omega) _ _⟩, ?_⟩
    exact ((Below.heap_setCell _ ⟨B + 1, 1, none⟩ _ _ (by simp; omega)).trans (Below.heap_setCell _ ⟨B + 1, 0, none⟩ _ _ (by simp; omega))).trans HE2.out
  · have HR : Hid (sumA 0 qs = none) := h1
    clear h1
    unfold Broke
    go_wp2
    exact ⟨rfl, .inr ⟨4, rfl, rfl, HR.out, HX2.out, HB2.out.mono hBl⟩, HE2.out⟩

/-- What Sum answers. -/
def SumOf (ps : List PP) (w : World) (e : Ending) (w' : World) : Prop :=
  Below w.heap.size w w' ∧ ((chkL [ps] ≠ 0 ∧ e = .returned (.tuple #[emptyPart, .int .i64 (chkL [ps])])) ∨
    (chkL [ps] = 0 ∧ ((∃ z x y, sumA 0 (rats ps) = some z ∧ IsP z x y ∧ e = .returned (.tuple #[.agg #[.string x, .string y], .int .i64 0])) ∨
      (sumA 0 (rats ps) = none ∧ e = .returned (.tuple #[emptyPart, .int .i64 4])))))

theorem sum_put {B : Nat} {u : Value} {x0 y0 : ByteArray} {w W : World} (h : Boxes B (SumBoxes u x0 y0) W) (hb : Below B w W) (x y : ByteArray) :
    Boxes B (SumBoxes u x y) ((W.setCell ⟨B + 1, 0, none⟩ (.string x)).setCell ⟨B + 1, 1, none⟩ (.string y)) ∧
    Below B w ((W.setCell ⟨B + 1, 0, none⟩ (.string x)).setCell ⟨B + 1, 1, none⟩ (.string y)) :=
  ⟨(h.store 1 0 rfl (.string x) rfl).store 1 1 rfl (.string y) rfl, two_put_below hb (by omega) _ _⟩

set_option maxRecDepth 100000 in
set_option maxHeartbeats 4000000 in
theorem sumOf_any {u : Value} {ps : List PP} {w : World} (hu : PL w u ps) (hsm : ps.length ≤ 512 → ∀ p ∈ ps, p.1.size ≤ 1000000 ∧ p.2.size ≤ 1000000) (hT : Tabs w) :
    Calls Tryz.prog 29 #[u] w (SumOf ps w) := by
  have hent := enters_of Tryz.func81 (by kernel_rfl) rfl
  have hmf : ∀ (fn : Fn) (first cap : Array Value) (w : World), (Instr.makeFunc fn first cap).run Tryz.prog w = .ok (.func fn first cap) w := fun _ _ _ _ => rfl
  obtain ⟨p1, n1, c1, rfl⟩ : ∃ p n c, u = .slice p n c := by obtain ⟨p, c, h, _⟩ := hu; exact ⟨_, _, _, h⟩
  have HU := Lib.hid hu
  have HT := Lib.hid hT
  have HSM := Lib.hid hsm
  have HENT := Lib.hid hent
  clear hu hT hsm hent
  go_enter Tryz.func29, Tryz.ntmps29
  go_wp2_with fail
  obtain ⟨w1, hw1⟩ : ∃ w1, (w.alloc (.cells #[.slice p1 n1 c1] 34)).alloc (.cells #[.string ⟨#[]⟩, .string ⟨#[]⟩] 24) = w1 := ⟨_, rfl⟩
  rw [hw1]
  have HX1 : Hid (Boxes w.heap.size (SumBoxes (.slice p1 n1 c1) ⟨#[]⟩ ⟨#[]⟩) w1) := by rw [← hw1]; exact Boxes.two w _ _
  have HB1 : Hid (Below w.heap.size w w1) := by rw [← hw1]; exact ((Below.refl _ w).alloc (Nat.le_refl _) _).alloc (by simp) _
  have hsz1 : w1.heap.size = w.heap.size + 1 + 1 := by rw [← hw1]; simp
  clear hw1
  have hal1 := (Below.refl w1.heap.size w1).alloc (Nat.le_refl _) (.cells #[.slice p1 n1 c1] 34)
  have HAL := Lib.hid hal1
  clear hal1
  have hll := one_list (HU.out.after HB1.out (Nat.le_refl _))
  rw [hsz1] at hll
  have hck := checked_any hll (by simp) (small_one HSM.out)
  refine hck.mono ?_
  clear hll hck hsz1
  rintro e w2 ⟨rfl, hb2⟩
  have HB2 := Lib.hid (HB1.out.trans ((HAL.out.trans (hb2.mono HAL.out.size)).mono HB1.out.size))
  have HX2 := Lib.hid ((HX1.out.alloc (.cells #[.slice p1 n1 c1] 34)).below hb2 (HX1.out.alloc _).lt)
  clear hb2
  obtain ⟨c, hc⟩ : ∃ c, chkL [ps] = c := ⟨_, rfl⟩
  rw [hc]
  by_cases h0 : c = 0
  · have hz : (c != 0) = false := by rw [bne_eq_false_iff_eq]; exact h0
    have HC : Hid (chkL [ps] = 0) := by show _ = _; rw [hc, h0]
    obtain ⟨g1, g3⟩ := chkL_one HC.out
    have HQ1 := Lib.hid (isL_rats g3)
    clear h0 hc g1 g3
    go_wp2_with fail
    have hal := (Below.refl w2.heap.size w2).alloc (Nat.le_refl _) (.cells #[.int .i64 0] 27)
    have hB3 := HB2.out.trans (hal.mono HB2.out.size)
    refine (tried_any (w := w2) HENT.out (sum1f_any (E := w2.heap.size) HQ1.out (HU.out.after hB3 (Nat.le_refl _)) (HT.out.below hB3 (Nat.le_refl _)) (HX2.out.alloc _) (World.alloc_heap_new w2 _) HX2.out.lt)).mono ?_
    rintro e w3 ⟨w4, n, rfl, hk, hlt, hQ⟩
    clear hal
    have HW4 : Hid (∃ x y, Boxes w.heap.size (SumBoxes (.slice p1 n1 c1) x y) w4 ∧ Below w.heap.size (w2.alloc (.cells #[.int .i64 0] 27)) w4 ∧
        ((∃ z, n = 0 ∧ sumA 0 (rats ps) = some z ∧ IsP z x y) ∨ (n = 4 ∧ sumA 0 (rats ps) = none ∧ x = ⟨#[]⟩ ∧ y = ⟨#[]⟩))) := by
      rcases hQ with ⟨h1, z, x, y, h2, h3, h4, h5⟩ | ⟨h0, h1, h2, h3⟩
      · exact ⟨x, y, h4, h5, .inl ⟨z, h1, h2, h3⟩⟩
      · exact ⟨_, _, h2, h3, .inr ⟨h0, h1, rfl, rfl⟩⟩
    clear hQ
    obtain ⟨x, y, hx4, hb4, hres⟩ := HW4.out
    have HX3 := Lib.hid (hx4.keeps hk (fun i hi => by have : i < 2 := hi; have := HX2.out.lt; have h4 : w.heap.size + 2 ≤ w2.heap.size := this; omega))
    have hsz2 := HB2.out.size
    have HB3 : Hid (Below w.heap.size w w3) := by
      have h5 : Below w.heap.size w w4 := (HB2.out.alloc hsz2 _).trans hb4
      exact h5.trans ⟨hk.os, hk.tape, hk.output, hk.size, fun b hb => hk.block b (by have := h5.size; omega) (by omega)⟩
    have HO3 := Lib.hid hres
    clear hk hx4 hb4 hres hlt hB3 HW4
    have r0 := HX3.out.cell 1 0 (b := w.heap.size + 1) rfl rfl rfl
    have r1 := HX3.out.cell 1 1 (b := w.heap.size + 1) rfl rfl rfl
    have f1 := HX3.out.free 1 0 (b := w.heap.size + 1) rfl rfl
    have f2 := HX3.out.free 1 1 (b := w.heap.size + 1) rfl rfl
    go_wp2
    obtain ⟨hp1, hp2⟩ := sum_put HX3.out HB3.out x y
    obtain ⟨w9, hw9⟩ : ∃ w9, (w3.setCell ⟨w.heap.size + 1, 0, none⟩ (.string x)).setCell ⟨w.heap.size + 1, 1, none⟩ (.string y) = w9 := ⟨_, rfl⟩
    rw [hw9] at hp1 hp2
    rw [hw9]
    have s1 := hp1.cell 1 0 (b := w.heap.size + 1) rfl rfl rfl
    have s2 := hp1.cell 1 1 (b := w.heap.size + 1) rfl rfl rfl
    clear r0 r1 f1 f2 hw9
    refine bodyPost_ret (v := .tuple #[.agg #[.string x, .string y], .int .i64 n]) (by simp [results, Tryz.f29, go_sem, s1, s2]) rfl ⟨hp2, ?_⟩
    refine .inr ⟨HC.out, ?_⟩
    rcases HO3.out with ⟨z, h1, h2, h3⟩ | ⟨h1, h2, h3, h4⟩
    · exact .inl ⟨z, x, y, h2, h3, by rw [h1]⟩
    · exact .inr ⟨h2, by rw [h1, h3, h4]; rfl⟩
  · have hz : (c != 0) = true := by rw [bne_iff_ne]; exact h0
    have HC : Hid (chkL [ps] = c ∧ c ≠ 0) := ⟨hc, h0⟩
    clear h0 hc
    have r0 := HX2.out.cell 1 0 (b := w.heap.size + 1) rfl rfl rfl
    have r1 := HX2.out.cell 1 1 (b := w.heap.size + 1) rfl rfl rfl
    have f1 := HX2.out.free 1 0 (b := w.heap.size + 1) rfl rfl
    have f2 := HX2.out.free 1 1 (b := w.heap.size + 1) rfl rfl
    go_wp2
    obtain ⟨hp1, hp2⟩ := sum_put HX2.out HB2.out ⟨#[]⟩ ⟨#[]⟩
    obtain ⟨w9, hw9⟩ : ∃ w9, (w2.setCell ⟨w.heap.size + 1, 0, none⟩ (.string ⟨#[]⟩)).setCell ⟨w.heap.size + 1, 1, none⟩ (.string ⟨#[]⟩) = w9 := ⟨_, rfl⟩
    rw [hw9] at hp1 hp2
    rw [hw9]
    have s1 := hp1.cell 1 0 (b := w.heap.size + 1) rfl rfl rfl
    have s2 := hp1.cell 1 1 (b := w.heap.size + 1) rfl rfl rfl
    clear r0 r1 f1 f2 hw9
    refine bodyPost_ret (v := .tuple #[.agg #[.string ⟨#[]⟩, .string ⟨#[]⟩], .int .i64 c]) (by simp [results, Tryz.f29, go_sem, s1, s2]) rfl ⟨hp2, ?_⟩
    exact .inl ⟨by rw [HC.out.1]; exact HC.out.2, by rw [HC.out.1]; rfl⟩
end Go.Proofs.YthbpadjhlkdpeaaGreatDoor
/- weight's Share. -/
namespace Go.Proofs.YthbpadjhlkdpeaaGreatDoor
open Go.RowKit Go.Shelf

/-- What shares become, or an error. -/
def shAll (qs : List Rat) : Except Int (List Rat) :=
  match sumA 0 qs with
  | none => .error 4
  | some z => if z = 0 then .error 7 else match shareA z qs with
    | none => .error 4
    | some s => .ok s
theorem shAll_s {qs : List Rat} (h2 : sumA 0 qs = none) : shAll qs = .error 4 := by unfold shAll; simp only [h2]
theorem shAll_z {qs : List Rat} {z : Rat} (h2 : sumA 0 qs = some z) (h3 : z = 0) : shAll qs = .error 7 := by unfold shAll; simp only [h2, h3, if_true]
theorem shAll_q {qs : List Rat} {z : Rat} (h2 : sumA 0 qs = some z) (h3 : z ≠ 0) (h4 : shareA z qs = none) : shAll qs = .error 4 := by unfold shAll; simp only [h2, h3, h4, if_false]
theorem shAll_ok {qs s : List Rat} {z : Rat} (h2 : sumA 0 qs = some z) (h3 : z ≠ 0) (h4 : shareA z qs = some s) : shAll qs = .ok s := by unfold shAll; simp only [h2, h3, h4, if_false]

/-- Share's own boxes. -/
def ShareBoxes (u a : Value) : List Obj := [.cells #[u] 34, .cells #[a] 34]
def ShareQ (B E : Nat) (u : Value) (r : Except Int (List Rat)) (w w' : World) : Prop :=
  ∃ s os a, r = .ok s ∧ IsL s os ∧ Own w' (E + 1) a os ∧ Boxes B (ShareBoxes u a) w' ∧ Below B w w'
def ShareR (B : Nat) (u : Value) (r : Except Int (List Rat)) (w : World) (n : Int) (w' : World) : Prop :=
  r = .error n ∧ Boxes B (ShareBoxes u (.slice none 0 0)) w' ∧ Below B w w'

set_option maxRecDepth 100000 in
set_option maxHeartbeats 4000000 in
theorem share1f_any {u : Value} {qs : List Rat} {ps : List PP} {w : World} {B E : Nat} (hq : IsL qs ps) (hu : PL w u ps) (hn600 : ps.length ≤ 600) (hT : Tabs w)
    (hbox : Boxes B (ShareBoxes u (.slice none 0 0)) w) (hE : w.heap[E]? = some (.cells #[.int .i64 0] 27 (0, 0))) (hBE : B + 2 ≤ E) :
    Calls Tryz.prog 84 #[.pointer (some ⟨B, 0, none⟩), .pointer (some ⟨B + 1, 0, none⟩)] w
      (DoPost E (ShareQ B E u (shAll qs) w) (ShareR B u (shAll qs) w)) := by
  obtain ⟨p1, c1, hu1, _, _, _⟩ := id hu
  obtain ⟨n1, hn1⟩ : ∃ n, ps.length = n := ⟨_, rfl⟩
  rw [hn1] at hu1 hn600
  subst hu1
  have HU := Lib.hid hu
  have HQ := Lib.hid hq
  have HN := Lib.hid hn1
  have HX := Lib.hid hbox
  have HE := Lib.hid hE
  have HT := Lib.hid hT
  have hEl := (Array.getElem?_eq_some_iff.1 hE).1
  have hBl : B ≤ w.heap.size := by omega
  clear hbox hE hT hq hn1 hu
  go_enter Tryz.func84, Tryz.ntmps84
  have k0 := HX.out.cell 0 0 (b := B) rfl rfl rfl
  go_wp2_with fail
  refine steps_plain [(true, 0), (true, 1), (false, 2), (false, 3), (false, 4)] (fun w' => w'.cell? ⟨B, 0, none⟩ = some (.slice p1 n1 c1)) (fun _ => false)
    (by kernel_rfl) (by kernel_rfl) (fun _ _ => rfl) (fun _ _ o _ _ h => by cases o <;> exact h) k0 ?_
  iterate 2
    refine steps_read _ rfl rfl (fun w' hS => by go_simp; rfl) ?_
    simp only [Act.put, List.setIfInBounds_toArray, List.set_cons_zero, List.set_cons_succ]
  refine steps_write rfl rfl fun K hK => ?_
  go_simp
  go_at_call 76
  refine (sum_any HQ.out (HU.out.after (Below.refl w.heap.size w).drew (Nat.le_refl _)) (HT.out.below (Below.refl w.heap.size w).drew (Nat.le_refl _))).mono ?_
  rintro e w3 ⟨hE3, hb3⟩
  have hb3' : Below w.heap.size w w3 := ((Below.refl w.heap.size w).drew).trans hb3
  have HB3 := Lib.hid hb3'
  have HX3 := Lib.hid (HX.out.below hb3' HX.out.lt)
  have HE3 : Hid (w3.heap[E]? = some (.cells #[.int .i64 0] 27 (0, 0))) := (hb3'.block E hEl).trans HE.out
  have l0 := (hb3'.cell (p := ⟨B, 0, none⟩) (World.block_lt_of_cell? _ _ k0)).trans k0
  have hs3 := hb3'.size
  clear hb3 hb3' k0
  rcases hE3 with ⟨z, x, y, h1, h2, rfl⟩ | ⟨h1, rfl⟩
  · have H2 := Lib.hid (And.intro h1 h2)
    clear h1 h2
    refine hK _ _ (.inr l0) ?_
    clear hK K
    refine steps_write rfl rfl fun K hK => ?_
    go_simp
    go_at_call 77
    refine (share_any H2.out.2 HQ.out (HU.out.after HB3.out (Nat.le_refl _)) (by rw [HN.out]; exact hn600) (HT.out.below HB3.out (Nat.le_refl _))).mono ?_
    rintro e w5 hE5
    have hb5 : Below w3.heap.size w3 w5 := by
      rcases hE5 with ⟨_, _, h⟩ | ⟨_, h⟩
      · exact h
      · exact h.2
    have HB5 := Lib.hid (HB3.out.trans (hb5.mono HB3.out.size))
    have HX5 := Lib.hid (HX3.out.below hb5 HX3.out.lt)
    have HE5 : Hid (w5.heap[E]? = some (.cells #[.int .i64 0] 27 (0, 0))) := (hb5.block E (by omega)).trans HE3.out
    have m0 := (hb5.cell (p := ⟨B, 0, none⟩) (World.block_lt_of_cell? _ _ l0)).trans l0
    have hs5 := hb5.size
    clear hb5 l0
    rcases hE5 with ⟨h1, rfl, _⟩ | ⟨h0, hE6, _⟩
    · have HR : Hid (shAll qs = .error 7) := shAll_z H2.out.1 h1
      exact ⟨rfl, .inr ⟨7, rfl, HR.out, HX5.out, HB5.out.mono hBl⟩, HE5.out⟩
    · rcases hE6 with ⟨ss, vs, va, h1, h2, rfl, h3⟩ | ⟨h1, rfl⟩
      · have HR : Hid (shAll qs = .ok ss) := shAll_ok H2.out.1 h0 h1
        have HS := Lib.hid h2
        have HV := Lib.hid h3
        obtain ⟨pv, nv, cv, rfl⟩ : ∃ p n c, va = .slice p n c := by
          obtain ⟨p, c, h, _⟩ := h3.pl
          exact ⟨_, _, _, h⟩
        clear h1 h2 h3 h0
        refine hK _ _ (.inr m0) ?_
        clear hK K
        have q0 := HX5.out.cell 1 0 (b := B + 1) rfl rfl rfl
        have f0 := HX5.out.free 1 0 (b := B + 1) rfl rfl
        refine steps_write rfl rfl fun K hK => ?_
        go_simp
        have n0 : (w5.setCell ⟨B + 1, 0, none⟩ (.slice pv nv cv)).cell? ⟨B, 0, none⟩ = some (.slice p1 n1 c1) := (World.cell?_of_block (w := w5) (Below.heap_setCell w5 ⟨B + 1, 0, none⟩ _ _ (by simp))).trans m0
        refine hK _ _ (.inr n0) ?_
        clear hK K m0 q0 f0
        refine steps_end ?_
        have HX7 := HX5.out.store 1 0 (b := B + 1) rfl (.slice pv nv cv) rfl
        refine ⟨rfl, .tuple #[], by simp [results, Tryz.f84, go_sem], .inl ⟨rfl, ss, vs, _, HR.out, HS.out, ?_, HX7, (HB5.out.mono hBl).setCell (p := ⟨B + 1, 0, none⟩) (by show B ≤ B + 1; omega) _⟩, ?_⟩
        · exact (HV.out.mono (b := E + 1) (by omega)).kept fun g hg _ => Below.heap_setCell w5 ⟨B + 1, 0, none⟩ _ _ (by simp; omega)
        · exact (Below.heap_setCell w5 ⟨B + 1, 0, none⟩ _ _ (by simp; omega)).trans HE5.out
      · have HR : Hid (shAll qs = .error 4) := shAll_q H2.out.1 h0 h1
        exact ⟨rfl, .inr ⟨4, rfl, HR.out, HX5.out, HB5.out.mono hBl⟩, HE5.out⟩
  · have HR : Hid (shAll qs = .error 4) := shAll_s h1
    exact ⟨rfl, .inr ⟨4, rfl, HR.out, HX3.out, HB3.out.mono hBl⟩, HE3.out⟩

/-- What Share answers. -/
def ShareOf (ps : List PP) (w : World) (e : Ending) (w' : World) : Prop :=
  Below w.heap.size w w' ∧ ((chkL [ps] ≠ 0 ∧ e = .returned (.tuple #[.slice none 0 0, .int .i64 (chkL [ps])])) ∨
    (chkL [ps] = 0 ∧ ((∃ s us v, shAll (rats ps) = .ok s ∧ IsL s us ∧ PL w' v us ∧ e = .returned (.tuple #[v, .int .i64 0])) ∨
      (∃ n, shAll (rats ps) = .error n ∧ e = .returned (.tuple #[.slice none 0 0, .int .i64 n])))))

theorem share_put {B : Nat} {u a0 : Value} {w W : World} (h : Boxes B (ShareBoxes u a0) W) (hb : Below B w W) (a : Value) :
    Boxes B (ShareBoxes u a) (W.setCell ⟨B + 1, 0, none⟩ a) ∧ Below B w (W.setCell ⟨B + 1, 0, none⟩ a) :=
  ⟨h.store 1 0 rfl a rfl, hb.setCell (p := ⟨B + 1, 0, none⟩) (by show B ≤ B + 1; omega) _⟩

set_option maxRecDepth 100000 in
set_option maxHeartbeats 4000000 in
theorem shareOf_any {u : Value} {ps : List PP} {w : World} (hu : PL w u ps) (hsm : ps.length ≤ 512 → ∀ p ∈ ps, p.1.size ≤ 1000000 ∧ p.2.size ≤ 1000000) (hT : Tabs w) :
    Calls Tryz.prog 32 #[u] w (ShareOf ps w) := by
  have hent := enters_of Tryz.func84 (by kernel_rfl) rfl
  have hmf : ∀ (fn : Fn) (first cap : Array Value) (w : World), (Instr.makeFunc fn first cap).run Tryz.prog w = .ok (.func fn first cap) w := fun _ _ _ _ => rfl
  obtain ⟨p1, n1, c1, rfl⟩ : ∃ p n c, u = .slice p n c := by obtain ⟨p, c, h, _⟩ := hu; exact ⟨_, _, _, h⟩
  have HU := Lib.hid hu
  have HT := Lib.hid hT
  have HSM := Lib.hid hsm
  have HENT := Lib.hid hent
  clear hu hT hsm hent
  go_enter Tryz.func32, Tryz.ntmps32
  go_wp2_with fail
  obtain ⟨w1, hw1⟩ : ∃ w1, (w.alloc (.cells #[.slice p1 n1 c1] 34)).alloc (.cells #[.slice none 0 0] 34) = w1 := ⟨_, rfl⟩
  rw [hw1]
  have HX1 : Hid (Boxes w.heap.size (ShareBoxes (.slice p1 n1 c1) (.slice none 0 0)) w1) := by rw [← hw1]; exact Boxes.two w _ _
  have HB1 : Hid (Below w.heap.size w w1) := by rw [← hw1]; exact ((Below.refl _ w).alloc (Nat.le_refl _) _).alloc (by simp) _
  have hsz1 : w1.heap.size = w.heap.size + 1 + 1 := by rw [← hw1]; simp
  clear hw1
  have hal1 := (Below.refl w1.heap.size w1).alloc (Nat.le_refl _) (.cells #[.slice p1 n1 c1] 34)
  have HAL := Lib.hid hal1
  clear hal1
  have hll := one_list (HU.out.after HB1.out (Nat.le_refl _))
  rw [hsz1] at hll
  have hck := checked_any hll (by simp) (small_one HSM.out)
  refine hck.mono ?_
  clear hll hck hsz1
  rintro e w2 ⟨rfl, hb2⟩
  have HB2 := Lib.hid (HB1.out.trans ((HAL.out.trans (hb2.mono HAL.out.size)).mono HB1.out.size))
  have HX2 := Lib.hid ((HX1.out.alloc (.cells #[.slice p1 n1 c1] 34)).below hb2 (HX1.out.alloc _).lt)
  clear hb2
  obtain ⟨c, hc⟩ : ∃ c, chkL [ps] = c := ⟨_, rfl⟩
  rw [hc]
  by_cases h0 : c = 0
  · have hz : (c != 0) = false := by rw [bne_eq_false_iff_eq]; exact h0
    have HC : Hid (chkL [ps] = 0) := by show _ = _; rw [hc, h0]
    obtain ⟨g1, g3⟩ := chkL_one HC.out
    have HQ1 := Lib.hid (isL_rats g3)
    have HG : Hid (ps.length ≤ 600) := Nat.le_trans g1 (by decide)
    clear h0 hc g1 g3
    go_wp2_with fail
    have hal := (Below.refl w2.heap.size w2).alloc (Nat.le_refl _) (.cells #[.int .i64 0] 27)
    have hB3 := HB2.out.trans (hal.mono HB2.out.size)
    refine (tried_any (w := w2) HENT.out (share1f_any (E := w2.heap.size) HQ1.out (HU.out.after hB3 (Nat.le_refl _)) HG.out (HT.out.below hB3 (Nat.le_refl _)) (HX2.out.alloc _) (World.alloc_heap_new w2 _) HX2.out.lt)).mono ?_
    rintro e w3 ⟨w4, n, rfl, hk, hlt, hQ⟩
    clear hal
    have HW4 : Hid (∃ a, Boxes w.heap.size (ShareBoxes (.slice p1 n1 c1) a) w4 ∧ Below w.heap.size (w2.alloc (.cells #[.int .i64 0] 27)) w4 ∧
        ((∃ s us, n = 0 ∧ shAll (rats ps) = .ok s ∧ IsL s us ∧ Own w4 (w2.heap.size + 1) a us) ∨ (shAll (rats ps) = .error n ∧ a = .slice none 0 0))) := by
      rcases hQ with ⟨h1, s, us, a, h2, h3, h4, h5, h6⟩ | ⟨h1, h2, h3⟩
      · exact ⟨a, h5, h6, .inl ⟨s, us, h1, h2, h3, h4⟩⟩
      · exact ⟨_, h2, h3, .inr ⟨h1, rfl⟩⟩
    clear hQ
    obtain ⟨a, hx4, hb4, hres⟩ := HW4.out
    have HX3 := Lib.hid (hx4.keeps hk (fun i hi => by have : i < 2 := hi; have := HX2.out.lt; have h4 : w.heap.size + 2 ≤ w2.heap.size := this; omega))
    have hsz2 := HB2.out.size
    have HB3 : Hid (Below w.heap.size w w3) := by
      have h5 : Below w.heap.size w w4 := (HB2.out.alloc hsz2 _).trans hb4
      exact h5.trans ⟨hk.os, hk.tape, hk.output, hk.size, fun b hb => hk.block b (by have := h5.size; omega) (by omega)⟩
    have HO3 : Hid ((∃ s us, n = 0 ∧ shAll (rats ps) = .ok s ∧ IsL s us ∧ Own w3 (w2.heap.size + 1) a us) ∨ (shAll (rats ps) = .error n ∧ a = .slice none 0 0)) := by
      rcases hres with ⟨s, us, h1, h2, h3, h5⟩ | h
      · exact .inl ⟨s, us, h1, h2, h3, h5.kept fun g hg hv => hk.block g (World.ownsRow.lt h5 g hv).2 (by omega)⟩
      · exact .inr h
    have hform : ∃ p n c, a = .slice p n c := by
      rcases hres with ⟨s, us, h1, h2, h3, h5⟩ | ⟨_, h⟩
      · obtain ⟨p, c, h, _⟩ := h5.pl; exact ⟨_, _, _, h⟩
      · exact ⟨_, _, _, h⟩
    obtain ⟨pa, na, ca, rfl⟩ := hform
    have HL3 : Hid (w2.heap.size < w3.heap.size ∧ w.heap.size + 2 ≤ w2.heap.size) := ⟨Nat.lt_of_lt_of_le hlt hk.size, HX2.out.lt⟩
    clear hk hx4 hb4 hres hlt hB3 HW4
    have r0 := HX3.out.cell 1 0 (b := w.heap.size + 1) rfl rfl rfl
    have f1 := HX3.out.free 1 0 (b := w.heap.size + 1) rfl rfl
    go_wp2
    obtain ⟨hp1, hp2⟩ := share_put HX3.out HB3.out (.slice pa na ca)
    have HK9 : Hid (∀ g, w.heap.size + 2 ≤ g → (w3.setCell ⟨w.heap.size + 1, 0, none⟩ (.slice pa na ca)).heap[g]? = w3.heap[g]?) := fun g hg => Below.heap_setCell _ ⟨w.heap.size + 1, 0, none⟩ _ _ (by simp; omega)
    obtain ⟨w9, hw9⟩ : ∃ w9, w3.setCell ⟨w.heap.size + 1, 0, none⟩ (.slice pa na ca) = w9 := ⟨_, rfl⟩
    rw [hw9] at hp1 hp2 HK9
    rw [hw9]
    have s1 := hp1.cell 1 0 (b := w.heap.size + 1) rfl rfl rfl
    clear r0 f1 hw9
    refine bodyPost_ret (v := .tuple #[.slice pa na ca, .int .i64 n]) (by simp [results, Tryz.f32, go_sem, s1]) rfl ⟨hp2, ?_⟩
    refine .inr ⟨HC.out, ?_⟩
    rcases HO3.out with ⟨s, us, h1, h2, h3, h5⟩ | ⟨h1, h2⟩
    · exact .inl ⟨s, us, _, h2, h3, PL.put h5 (fun g hg _ => HK9.out g (by have := HL3.out.2; omega)), by rw [h1]⟩
    · exact .inr ⟨n, h1, by rw [h2]⟩
  · have hz : (c != 0) = true := by rw [bne_iff_ne]; exact h0
    have HC : Hid (chkL [ps] = c ∧ c ≠ 0) := ⟨hc, h0⟩
    clear h0 hc
    have r0 := HX2.out.cell 1 0 (b := w.heap.size + 1) rfl rfl rfl
    have f1 := HX2.out.free 1 0 (b := w.heap.size + 1) rfl rfl
    go_wp2
    obtain ⟨hp1, hp2⟩ := share_put HX2.out HB2.out (.slice none 0 0)
    have HK9 : Hid (∀ g, w.heap.size + 2 ≤ g → (w2.setCell ⟨w.heap.size + 1, 0, none⟩ (.slice none 0 0)).heap[g]? = w2.heap[g]?) := fun g hg => Below.heap_setCell _ ⟨w.heap.size + 1, 0, none⟩ _ _ (by simp; omega)
    obtain ⟨w9, hw9⟩ : ∃ w9, w2.setCell ⟨w.heap.size + 1, 0, none⟩ (.slice none 0 0) = w9 := ⟨_, rfl⟩
    rw [hw9] at hp1 hp2 HK9
    rw [hw9]
    have s1 := hp1.cell 1 0 (b := w.heap.size + 1) rfl rfl rfl
    clear r0 f1 hw9
    refine bodyPost_ret (v := .tuple #[.slice none 0 0, .int .i64 c]) (by simp [results, Tryz.f32, go_sem, s1]) rfl ⟨hp2, ?_⟩
    exact .inl ⟨by rw [HC.out.1]; exact HC.out.2, by rw [HC.out.1]⟩
end Go.Proofs.YthbpadjhlkdpeaaGreatDoor
/- Sums, products and shares of lists of small fractions: they fit. -/
namespace Go.Proofs.YthbpadjhlkdpeaaGreatDoor
open Go.RowKit Go.Shelf

/-- A sum from the left. -/
def sumR : Rat → List Rat → Rat
  | a, [] => a
  | a, q :: qs => sumR (a + q) qs
/-- Small fractions. -/
def Small (m : Nat) (qs : List Rat) : Prop := ∀ q ∈ qs, 0 ≤ q ∧ Sz m q
theorem Small.tail {m : Nat} {q : Rat} {qs : List Rat} (h : Small m (q :: qs)) : Small m qs := fun r hr => h r (List.mem_cons_of_mem _ hr)
theorem Small.head {m : Nat} {q : Rat} {qs : List Rat} (h : Small m (q :: qs)) : 0 ≤ q ∧ Sz m q := h q (by simp)

theorem sumA_fits {m : Nat} : ∀ (qs : List Rat) (a : Rat) (k : Nat), 0 ≤ a → Sz k a → Small m qs → k + qs.length * (m + 1) ≤ 600 → sumA a qs = some (sumR a qs) ∧ 0 ≤ sumR a qs ∧ Sz (k + qs.length * (m + 1)) (sumR a qs)
  | [], a, k, h0, h1, _, _ => ⟨rfl, h0, by simpa [sumR] using h1⟩
  | q :: qs, a, k, h0, h1, h2, h3 => by
    obtain ⟨n1, z1⟩ := h2.head
    have h4 : 0 ≤ a + q := by grind
    have h5 : Sz (k + m + 1) (a + q) := Sz.add h0 n1 h1 z1
    have h6 : k + (qs.length + 1) * (m + 1) = k + m + 1 + qs.length * (m + 1) := by rw [Nat.succ_mul]; omega
    rw [List.length_cons, h6] at h3 ⊢
    have h7 := sumA_fits qs (a + q) (k + m + 1) h4 h5 h2.tail h3
    refine ⟨?_, h7.2.1, h7.2.2⟩
    unfold sumA
    rw [if_pos (h5.fits (by omega) (by omega)), h7.1]
    rfl
theorem sumA_div {m j : Nat} {z : Rat} (hz : 0 < z) (hj : Sz j z) : ∀ (qs : List Rat) (a : Rat) (k : Nat), 0 ≤ a → Sz k a → Small m qs → k + qs.length * (m + 1) + j ≤ 600 → sumA (a / z) (qs.map (· / z)) = some (sumR a qs / z)
  | [], a, k, _, _, _, _ => rfl
  | q :: qs, a, k, h0, h1, h2, h3 => by
    obtain ⟨n1, z1⟩ := h2.head
    have h4 : 0 ≤ a + q := by grind
    have h5 : Sz (k + m + 1) (a + q) := Sz.add h0 n1 h1 z1
    have h6 : k + (qs.length + 1) * (m + 1) = k + m + 1 + qs.length * (m + 1) := by rw [Nat.succ_mul]; omega
    rw [List.length_cons, h6] at h3
    have h7 := sumA_div hz hj qs (a + q) (k + m + 1) h4 h5 h2.tail h3
    have h8 : a / z + q / z = (a + q) / z := by grind
    rw [List.map_cons]
    unfold sumA
    rw [h8, if_pos ((Sz.div h4 hz h5 hj).fits (by omega) (by omega)), h7]
    rfl
theorem shareA_small {m j : Nat} {z : Rat} (hz : 0 < z) (hj : Sz j z) (h0 : 0 < m) (h1 : m + j ≤ 600) : ∀ (qs : List Rat), Small m qs → shareA z qs = some (qs.map (· / z))
  | [], _ => rfl
  | q :: qs, h2 => by
    obtain ⟨n1, z1⟩ := h2.head
    unfold shareA
    rw [if_pos ((Sz.div n1 hz z1 hj).fits (by omega) (by omega)), shareA_small hz hj h0 h1 qs h2.tail]
    rfl
theorem sz_zero : Sz 1 0 := ⟨by decide, by decide⟩
theorem Small.sum {m : Nat} {qs : List Rat} (h : Small m qs) (hk : 1 + qs.length * (m + 1) ≤ 600) : sumA 0 qs = some (sumR 0 qs) ∧ 0 ≤ sumR 0 qs ∧ Sz (1 + qs.length * (m + 1)) (sumR 0 qs) :=
  sumA_fits qs 0 1 (by decide) sz_zero h hk
/-- The shares of small fractions: all of them, or their sum is zero. -/
theorem Small.shares {m : Nat} {qs : List Rat} (h : Small m qs) (h0 : 0 < m) (hk : 1 + qs.length * (m + 1) + m ≤ 600) :
    (sumR 0 qs = 0 ∧ shAll qs = .error 7) ∨ (0 < sumR 0 qs ∧ shAll qs = .ok (qs.map (· / sumR 0 qs))) := by
  obtain ⟨h1, h2, h3⟩ := h.sum (by omega)
  by_cases hz : sumR 0 qs = 0
  · exact .inl ⟨hz, shAll_z h1 hz⟩
  · have hp : 0 < sumR 0 qs := Rat.lt_of_le_of_ne h2 (Ne.symm hz)
    exact .inr ⟨hp, shAll_ok h1 hz (shareA_small hp h3 h0 (by omega) qs h)⟩
/-- .. their sum is one. -/
theorem Small.whole {m : Nat} {qs : List Rat} (h : Small m qs) (hk : 1 + qs.length * (m + 1) + (1 + qs.length * (m + 1)) ≤ 600) (hp : 0 < sumR 0 qs) : sumA 0 (qs.map (· / sumR 0 qs)) = some 1 := by
  obtain ⟨h1, h2, h3⟩ := h.sum (by omega)
  have h4 := sumA_div hp h3 qs 0 1 (by decide) sz_zero h hk
  have h5 : (0 : Rat) / sumR 0 qs = 0 := by grind
  have h6 : sumR 0 qs / sumR 0 qs = 1 := by grind
  rw [h5, h6] at h4
  exact h4
theorem small_rats {m : Nat} {ps : List PP} (h : ∀ p ∈ ps, okP p.1 p.2 = true) (hs : ∀ p ∈ ps, p.1.size ≤ m ∧ p.2.size ≤ m) : Small m (rats ps) := fun q hq => by
  obtain ⟨p, hp, rfl⟩ := List.mem_map.1 hq
  have h1 := isP_of_ok (h p hp)
  exact ⟨h1.nn, h1.sz (hs p hp).1 (hs p hp).2⟩
theorem IsL.okAll {qs : List Rat} {us : List PP} (h : IsL qs us) : ∀ p ∈ us, okP p.1 p.2 = true := fun p hp => by
  obtain ⟨k, hk, rfl⟩ := List.getElem_of_mem hp
  exact (h.get k hk).ok
theorem chkL_two {ps : List PP} (h : chkL [ps] ≠ 0) (hl : ps.length ≤ 512) : chkL [ps] = 2 := by
  unfold chkL at h ⊢
  have hn : ¬ ([ps].any fun l => decide (512 < l.length)) = true := by simp; omega
  rw [if_neg hn] at h ⊢
  split
  · rename_i h1; rw [if_pos h1] at h; exact absurd rfl h
  · rfl
theorem chkL_isL {qs : List Rat} {us : List PP} (h : IsL qs us) (hl : us.length ≤ 512) : chkL [us] = 0 := by
  refine chkL_ok (fun l hm => ?_) fun l hm => ?_
  · obtain rfl : l = us := by simpa using hm
    exact hl
  · obtain rfl : l = us := by simpa using hm
    exact h.okAll
end Go.Proofs.YthbpadjhlkdpeaaGreatDoor
