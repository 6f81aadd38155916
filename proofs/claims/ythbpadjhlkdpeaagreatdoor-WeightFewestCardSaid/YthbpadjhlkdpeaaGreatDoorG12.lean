/- The parts Ops, Inv of a proof, put together by program (merge.py). -/
import Derived.Test.YthbpadjhlkdpeaaGreatDoorG11
import Derived.Test.YthbpadjhlkdpeaaGreatDoorG03
import Derived.OrdersHeld
/- weight's Add, Sub, Mul, Div, Not, Compare: as rational numbers. -/
namespace Go.Proofs.YthbpadjhlkdpeaaGreatDoor
open Go.RowKit Go.Shelf
attribute [local go_sem ↓] Go.wp_at_zero Go.wp_at_succ



/-- What a difference answers. -/
def SubA (a b : Rat) (x y : ByteArray) (e : Int) : Prop := (a < b ∧ x = str [] ∧ y = str [] ∧ e = 11) ∨ (b ≤ a ∧ Ans (a - b) x y e)
/-- What a quotient answers. -/
def DivA (a b : Rat) (x y : ByteArray) (e : Int) : Prop := (b = 0 ∧ x = str [] ∧ y = str [] ∧ e = 10) ∨ (0 < b ∧ Ans (a / b) x y e)

theorem ok_vals {s t : ByteArray} (h : okP s t = true) : 0 ≤ ratP s t ∧ decVal s.data.toList = (ratP s t).num.toNat ∧ decVal t.data.toList = (ratP s t).den :=
  ⟨(isP_of_ok h).nn, (isP_of_ok h).vals.1, (isP_of_ok h).vals.2⟩

theorem Bi.mono {s t u v x y : ByteArray} {e : Int} {R R' : ByteArray → ByteArray → Int → Prop} (h : Bi s t u v R x y e) (f : okP s t = true → okP u v = true → R x y e → R' x y e) : Bi s t u v R' x y e := by
  rcases h with h | ⟨h1, h2⟩
  · exact .inl h
  · rw [Bool.and_eq_true] at h1
    exact .inr ⟨by rw [Bool.and_eq_true]; exact h1, f h1.1 h1.2 h2⟩

theorem bi_mul {s t u v x y : ByteArray} {e : Int} (h : Bi s t u v (Ans (mkRat ((decVal s.data.toList * decVal u.data.toList : Nat) : Int) (decVal t.data.toList * decVal v.data.toList))) x y e) : Bi s t u v (Ans (ratP s t * ratP u v)) x y e :=
  h.mono fun h1 h2 h3 => by
    obtain ⟨a1, a2, a3⟩ := ok_vals h1
    obtain ⟨b1, b2, b3⟩ := ok_vals h2
    rw [mul_mk a1 b1, ← a2, ← a3, ← b2, ← b3]; exact h3
theorem bi_add {s t u v x y : ByteArray} {e : Int} (h : Bi s t u v (Ans (mkRat ((decVal s.data.toList * decVal v.data.toList + decVal u.data.toList * decVal t.data.toList : Nat) : Int) (decVal t.data.toList * decVal v.data.toList))) x y e) : Bi s t u v (Ans (ratP s t + ratP u v)) x y e :=
  h.mono fun h1 h2 h3 => by
    obtain ⟨a1, a2, a3⟩ := ok_vals h1
    obtain ⟨b1, b2, b3⟩ := ok_vals h2
    rw [add_mk a1 b1, ← a2, ← a3, ← b2, ← b3]; exact h3
theorem bi_sub {s t u v x y : ByteArray} {e : Int} (h : Bi s t u v (SubR (decVal s.data.toList) (decVal t.data.toList) (decVal u.data.toList) (decVal v.data.toList)) x y e) : Bi s t u v (SubA (ratP s t) (ratP u v)) x y e :=
  h.mono fun h1 h2 h3 => by
    obtain ⟨a1, a2, a3⟩ := ok_vals h1
    obtain ⟨b1, b2, b3⟩ := ok_vals h2
    unfold SubR at h3
    rw [a2, a3, b2, b3] at h3
    rcases h3 with ⟨k, h3⟩ | ⟨k, h3⟩
    · exact .inl ⟨(lt_nat a1 b1).2 k, h3⟩
    · have hk := (le_nat b1 a1).2 k
      exact .inr ⟨hk, by rw [sub_mk a1 b1 hk]; exact h3⟩
theorem bi_div {s t u v x y : ByteArray} {e : Int} (h : Bi s t u v (DivR (decVal s.data.toList) (decVal t.data.toList) (decVal u.data.toList) (decVal v.data.toList)) x y e) : Bi s t u v (DivA (ratP s t) (ratP u v)) x y e :=
  h.mono fun h1 h2 h3 => by
    obtain ⟨a1, a2, a3⟩ := ok_vals h1
    obtain ⟨b1, b2, b3⟩ := ok_vals h2
    unfold DivR at h3
    rw [a2, a3, b2, b3] at h3
    rcases h3 with ⟨k, h3⟩ | ⟨k, h3⟩
    · refine .inl ⟨?_, h3⟩
      have h4 := num_toNat b1
      rw [k] at h4
      exact Rat.num_eq_zero.1 h4.symm
    · have hk : 0 < ratP u v := by
        refine Rat.lt_of_le_of_ne b1 fun h0 => ?_
        rw [← h0] at k
        exact absurd k (by decide)
      exact .inr ⟨hk, by rw [div_mk a1 hk]; exact h3⟩

set_option maxRecDepth 100000 in
set_option maxHeartbeats 2000000 in
theorem mul_rat (s t u v : ByteArray) (w : World) (hs : s.size ≤ 1000000) (ht : t.size ≤ 1000000) (hu : u.size ≤ 1000000) (hv : v.size ≤ 1000000) (hT : Tabs w) :
    Calls Tryz.prog 18 #[.agg #[.string s, .string t], .agg #[.string u, .string v]] w (PartPost (Bi s t u v (Ans (ratP s t * ratP u v))) w) := by
  have HT := Lib.hid hT
  clear hT
  go_enter Tryz.func18, Tryz.ntmps18
  go_wp2_with fail
  obtain ⟨w1, hw1⟩ : ∃ w1, ((w.alloc (.cells #[.string s, .string t] 24)).alloc (.cells #[.string u, .string v] 24)).alloc (.cells #[.string ⟨#[]⟩, .string ⟨#[]⟩] 24) = w1 := ⟨_, rfl⟩
  rw [hw1]
  have HX1 : Hid (Boxes w.heap.size [.cells #[.string s, .string t] 24, .cells #[.string u, .string v] 24, .cells #[.string ⟨#[]⟩, .string ⟨#[]⟩] 24] w1) := by rw [← hw1]; exact Boxes.three w _ _ _
  have HB1 : Hid (Below w.heap.size w w1) := by rw [← hw1]; exact (((Below.refl _ w).alloc (Nat.le_refl _) _).alloc (by simp) _).alloc (by simp <;> omega) _
  clear hw1
  refine (two_mul s t u v _ hs ht hu hv (HT.out.below HB1.out (Nat.le_refl _))).mono ?_
  rintro e w2 ⟨x, y, n, rfl, hR, hb2⟩
  have HR := Lib.hid (bi_mul hR)
  have HX2 := Lib.hid (HX1.out.below hb2 HX1.out.lt)
  have HB2 := Lib.hid (HB1.out.trans (hb2.mono HB1.out.size))
  clear hR hb2
  have r0 := HX2.out.cell 2 0 (b := w.heap.size + 1 + 1) rfl rfl rfl
  have r1 := HX2.out.cell 2 1 (b := w.heap.size + 1 + 1) rfl rfl rfl
  have f0 := HX2.out.free 2 0 (b := w.heap.size + 1 + 1) rfl rfl
  have f1 := HX2.out.free 2 1 (b := w.heap.size + 1 + 1) rfl rfl
  go_wp2
  have q := two_put_cells (HX2.out.block 2 (b := w.heap.size + 1 + 1) rfl rfl) (.string x) (.string y)
  have HBQ := Lib.hid (two_put_below HB2.out (b := w.heap.size + 1 + 1) (by omega) (.string x) (.string y))
  obtain ⟨w9, hw9⟩ : ∃ w9, (w2.setCell ⟨w.heap.size + 1 + 1, 0, none⟩ (.string x)).setCell ⟨w.heap.size + 1 + 1, 1, none⟩ (.string y) = w9 := ⟨_, rfl⟩
  rw [hw9] at q HBQ
  obtain ⟨q0, q1⟩ := q
  rw [hw9]
  clear r0 r1 f0 f1 hw9
  go_wp2
  refine bodyPost_ret (v := .tuple #[.agg #[.string x, .string y], .int .i64 n]) (by simp [results, Tryz.f18, go_sem, q0, q1]) rfl ⟨_, _, _, rfl, ?_, HBQ.out⟩
  exact HR.out
set_option maxRecDepth 100000 in
set_option maxHeartbeats 2000000 in
theorem add_rat (s t u v : ByteArray) (w : World) (hs : s.size ≤ 1000000) (ht : t.size ≤ 1000000) (hu : u.size ≤ 1000000) (hv : v.size ≤ 1000000) (hT : Tabs w) :
    Calls Tryz.prog 35 #[.agg #[.string s, .string t], .agg #[.string u, .string v]] w (PartPost (Bi s t u v (Ans (ratP s t + ratP u v))) w) := by
  have HT := Lib.hid hT
  clear hT
  go_enter Tryz.func35, Tryz.ntmps35
  go_wp2_with fail
  obtain ⟨w1, hw1⟩ : ∃ w1, ((w.alloc (.cells #[.string s, .string t] 24)).alloc (.cells #[.string u, .string v] 24)).alloc (.cells #[.string ⟨#[]⟩, .string ⟨#[]⟩] 24) = w1 := ⟨_, rfl⟩
  rw [hw1]
  have HX1 : Hid (Boxes w.heap.size [.cells #[.string s, .string t] 24, .cells #[.string u, .string v] 24, .cells #[.string ⟨#[]⟩, .string ⟨#[]⟩] 24] w1) := by rw [← hw1]; exact Boxes.three w _ _ _
  have HB1 : Hid (Below w.heap.size w w1) := by rw [← hw1]; exact (((Below.refl _ w).alloc (Nat.le_refl _) _).alloc (by simp) _).alloc (by simp <;> omega) _
  clear hw1
  refine (two_add s t u v _ hs ht hu hv (HT.out.below HB1.out (Nat.le_refl _))).mono ?_
  rintro e w2 ⟨x, y, n, rfl, hR, hb2⟩
  have HR := Lib.hid (bi_add hR)
  have HX2 := Lib.hid (HX1.out.below hb2 HX1.out.lt)
  have HB2 := Lib.hid (HB1.out.trans (hb2.mono HB1.out.size))
  clear hR hb2
  have r0 := HX2.out.cell 2 0 (b := w.heap.size + 1 + 1) rfl rfl rfl
  have r1 := HX2.out.cell 2 1 (b := w.heap.size + 1 + 1) rfl rfl rfl
  have f0 := HX2.out.free 2 0 (b := w.heap.size + 1 + 1) rfl rfl
  have f1 := HX2.out.free 2 1 (b := w.heap.size + 1 + 1) rfl rfl
  go_wp2
  have q := two_put_cells (HX2.out.block 2 (b := w.heap.size + 1 + 1) rfl rfl) (.string x) (.string y)
  have HBQ := Lib.hid (two_put_below HB2.out (b := w.heap.size + 1 + 1) (by omega) (.string x) (.string y))
  obtain ⟨w9, hw9⟩ : ∃ w9, (w2.setCell ⟨w.heap.size + 1 + 1, 0, none⟩ (.string x)).setCell ⟨w.heap.size + 1 + 1, 1, none⟩ (.string y) = w9 := ⟨_, rfl⟩
  rw [hw9] at q HBQ
  obtain ⟨q0, q1⟩ := q
  rw [hw9]
  clear r0 r1 f0 f1 hw9
  go_wp2
  refine bodyPost_ret (v := .tuple #[.agg #[.string x, .string y], .int .i64 n]) (by simp [results, Tryz.f35, go_sem, q0, q1]) rfl ⟨_, _, _, rfl, ?_, HBQ.out⟩
  exact HR.out
set_option maxRecDepth 100000 in
set_option maxHeartbeats 2000000 in
theorem sub_rat (s t u v : ByteArray) (w : World) (hs : s.size ≤ 1000000) (ht : t.size ≤ 1000000) (hu : u.size ≤ 1000000) (hv : v.size ≤ 1000000) (hT : Tabs w) :
    Calls Tryz.prog 36 #[.agg #[.string s, .string t], .agg #[.string u, .string v]] w (PartPost (Bi s t u v (SubA (ratP s t) (ratP u v))) w) := by
  have HT := Lib.hid hT
  clear hT
  go_enter Tryz.func36, Tryz.ntmps36
  go_wp2_with fail
  obtain ⟨w1, hw1⟩ : ∃ w1, ((w.alloc (.cells #[.string s, .string t] 24)).alloc (.cells #[.string u, .string v] 24)).alloc (.cells #[.string ⟨#[]⟩, .string ⟨#[]⟩] 24) = w1 := ⟨_, rfl⟩
  rw [hw1]
  have HX1 : Hid (Boxes w.heap.size [.cells #[.string s, .string t] 24, .cells #[.string u, .string v] 24, .cells #[.string ⟨#[]⟩, .string ⟨#[]⟩] 24] w1) := by rw [← hw1]; exact Boxes.three w _ _ _
  have HB1 : Hid (Below w.heap.size w w1) := by rw [← hw1]; exact (((Below.refl _ w).alloc (Nat.le_refl _) _).alloc (by simp) _).alloc (by simp <;> omega) _
  clear hw1
  refine (two_sub s t u v _ hs ht hu hv (HT.out.below HB1.out (Nat.le_refl _))).mono ?_
  rintro e w2 ⟨x, y, n, rfl, hR, hb2⟩
  have HR := Lib.hid (bi_sub hR)
  have HX2 := Lib.hid (HX1.out.below hb2 HX1.out.lt)
  have HB2 := Lib.hid (HB1.out.trans (hb2.mono HB1.out.size))
  clear hR hb2
  have r0 := HX2.out.cell 2 0 (b := w.heap.size + 1 + 1) rfl rfl rfl
  have r1 := HX2.out.cell 2 1 (b := w.heap.size + 1 + 1) rfl rfl rfl
  have f0 := HX2.out.free 2 0 (b := w.heap.size + 1 + 1) rfl rfl
  have f1 := HX2.out.free 2 1 (b := w.heap.size + 1 + 1) rfl rfl
  go_wp2
  have q := two_put_cells (HX2.out.block 2 (b := w.heap.size + 1 + 1) rfl rfl) (.string x) (.string y)
  have HBQ := Lib.hid (two_put_below HB2.out (b := w.heap.size + 1 + 1) (by omega) (.string x) (.string y))
  obtain ⟨w9, hw9⟩ : ∃ w9, (w2.setCell ⟨w.heap.size + 1 + 1, 0, none⟩ (.string x)).setCell ⟨w.heap.size + 1 + 1, 1, none⟩ (.string y) = w9 := ⟨_, rfl⟩
  rw [hw9] at q HBQ
  obtain ⟨q0, q1⟩ := q
  rw [hw9]
  clear r0 r1 f0 f1 hw9
  go_wp2
  refine bodyPost_ret (v := .tuple #[.agg #[.string x, .string y], .int .i64 n]) (by simp [results, Tryz.f36, go_sem, q0, q1]) rfl ⟨_, _, _, rfl, ?_, HBQ.out⟩
  exact HR.out
set_option maxRecDepth 100000 in
set_option maxHeartbeats 2000000 in
theorem div_rat (s t u v : ByteArray) (w : World) (hs : s.size ≤ 1000000) (ht : t.size ≤ 1000000) (hu : u.size ≤ 1000000) (hv : v.size ≤ 1000000) (hT : Tabs w) :
    Calls Tryz.prog 20 #[.agg #[.string s, .string t], .agg #[.string u, .string v]] w (PartPost (Bi s t u v (DivA (ratP s t) (ratP u v))) w) := by
  have HT := Lib.hid hT
  clear hT
  go_enter Tryz.func20, Tryz.ntmps20
  go_wp2_with fail
  obtain ⟨w1, hw1⟩ : ∃ w1, ((w.alloc (.cells #[.string s, .string t] 24)).alloc (.cells #[.string u, .string v] 24)).alloc (.cells #[.string ⟨#[]⟩, .string ⟨#[]⟩] 24) = w1 := ⟨_, rfl⟩
  rw [hw1]
  have HX1 : Hid (Boxes w.heap.size [.cells #[.string s, .string t] 24, .cells #[.string u, .string v] 24, .cells #[.string ⟨#[]⟩, .string ⟨#[]⟩] 24] w1) := by rw [← hw1]; exact Boxes.three w _ _ _
  have HB1 : Hid (Below w.heap.size w w1) := by rw [← hw1]; exact (((Below.refl _ w).alloc (Nat.le_refl _) _).alloc (by simp) _).alloc (by simp <;> omega) _
  clear hw1
  refine (two_div s t u v _ hs ht hu hv (HT.out.below HB1.out (Nat.le_refl _))).mono ?_
  rintro e w2 ⟨x, y, n, rfl, hR, hb2⟩
  have HR := Lib.hid (bi_div hR)
  have HX2 := Lib.hid (HX1.out.below hb2 HX1.out.lt)
  have HB2 := Lib.hid (HB1.out.trans (hb2.mono HB1.out.size))
  clear hR hb2
  have r0 := HX2.out.cell 2 0 (b := w.heap.size + 1 + 1) rfl rfl rfl
  have r1 := HX2.out.cell 2 1 (b := w.heap.size + 1 + 1) rfl rfl rfl
  have f0 := HX2.out.free 2 0 (b := w.heap.size + 1 + 1) rfl rfl
  have f1 := HX2.out.free 2 1 (b := w.heap.size + 1 + 1) rfl rfl
  go_wp2
  have q := two_put_cells (HX2.out.block 2 (b := w.heap.size + 1 + 1) rfl rfl) (.string x) (.string y)
  have HBQ := Lib.hid (two_put_below HB2.out (b := w.heap.size + 1 + 1) (by omega) (.string x) (.string y))
  obtain ⟨w9, hw9⟩ : ∃ w9, (w2.setCell ⟨w.heap.size + 1 + 1, 0, none⟩ (.string x)).setCell ⟨w.heap.size + 1 + 1, 1, none⟩ (.string y) = w9 := ⟨_, rfl⟩
  rw [hw9] at q HBQ
  obtain ⟨q0, q1⟩ := q
  rw [hw9]
  clear r0 r1 f0 f1 hw9
  go_wp2
  refine bodyPost_ret (v := .tuple #[.agg #[.string x, .string y], .int .i64 n]) (by simp [results, Tryz.f20, go_sem, q0, q1]) rfl ⟨_, _, _, rfl, ?_, HBQ.out⟩
  exact HR.out
end Go.Proofs.YthbpadjhlkdpeaaGreatDoor
/- A region that draws its order, by an invariant: what holds whichever operations have come up. One case for each operation, not one for each order. -/
namespace Go.Proofs.YthbpadjhlkdpeaaGreatDoor
open Go.RowKit

section
variable {P : Program} {ops : Array Oper} {Q : Exit → Act → World → Prop} {md : Region.Mode}

/-- How many operations have not come up. -/
def unlisted (listed : Array Bool) : Nat := (listed.toList.filter fun b => !b).length

theorem unlisted_set : ∀ (l : List Bool) (i : Nat), l[i]? = some false → ((l.set i true).filter fun b => !b).length + 1 = (l.filter fun b => !b).length
  | [], i, h => by simp at h
  | b :: l, 0, h => by
    simp at h; subst h; simp
  | b :: l, i + 1, h => by
    have ih := unlisted_set l i (by simpa using h)
    rw [List.set_cons_succ, List.filter_cons, List.filter_cons]
    cases b <;> simp <;> omega

theorem unlisted_setIf {listed : Array Bool} {i : Nat} (h : listed.getD i true = false) : unlisted (listed.setIfInBounds i true) + 1 = unlisted listed := by
  unfold unlisted
  rw [Array.toList_setIfInBounds]
  refine unlisted_set _ i ?_
  rcases Nat.lt_or_ge i listed.size with h' | h'
  · simp [h'] at h ⊢; exact h
  · simp [Array.getD, Nat.not_lt.2 h'] at h

/-- Each operation waits for earlier ones alone. -/
def orderedB (ops : Array Oper) : Bool := (List.range ops.size).all fun j => match ops[j]? with | some o => o.after.all fun e => decide (e.on < j) | none => true

theorem all_listed (ho : orderedB ops = true) {listed : Array Bool} (hs : listed.size = ops.size) (h : Region.ready md ops listed = []) : ∀ j, j < ops.size → listed.getD j false = true := by
  intro j
  induction j using Nat.strongRecOn with
  | _ j ih =>
    intro hj
    cases hl : listed.getD j true with
    | true =>
      have : j < listed.size := by omega
      simp [this] at hl ⊢; exact hl
    | false =>
      exfalso
      have hm : j ∈ Region.ready md ops listed := mem_ready.2 ⟨hl, ops[j], by simp [hj], fun e he _ => by
        unfold orderedB at ho
        rw [List.all_eq_true] at ho
        have h1 := ho j (List.mem_range.2 hj)
        rw [Array.getElem?_eq_getElem hj] at h1
        have h2 := Array.all_eq_true_iff_forall_mem.1 h1 e he
        have h3 : e.on < j := of_decide_eq_true h2
        exact ih e.on h3 (by omega)⟩
      rw [h] at hm
      cases hm

theorem wpAny_inv (Inv : Array Bool → Act → World → Prop) (ho : orderedB ops = true)
    (hstep : ∀ (listed : Array Bool) (a : Act) (w : World) (i : Nat) (o : Oper), ops[i]? = some o → listed.size = ops.size → listed.getD i true = false → (∀ e ∈ o.after, Region.binds md e = true → listed.getD e.on false = true) →
      Inv listed a w → wpOp P ops Q i (Inv (listed.setIfInBounds i true)) a w)
    (hend : ∀ (listed : Array Bool) (a : Act) (w : World), (∀ j, j < ops.size → listed.getD j false = true) → Inv listed a w → Q .normal a w) :
    ∀ (fuel : Nat) (listed : Array Bool) (a : Act) (w : World), unlisted listed ≤ fuel → listed.size = ops.size → Inv listed a w → wpAny P md ops Q fuel listed a w
  | 0, listed, a, w, hf, hs, hi => by
    have hr : Region.ready md ops listed = [] := by
      rcases h : Region.ready md ops listed with _ | ⟨i, r⟩
      · rfl
      · have : i ∈ Region.ready md ops listed := by rw [h]; exact List.mem_cons_self
        have := unlisted_setIf (mem_ready.1 this).1
        omega
    exact ⟨hr, hend listed a w (all_listed ho hs hr) hi⟩
  | fuel + 1, listed, a, w, hf, hs, hi => by
    refine ⟨fun hr => hend listed a w (all_listed ho hs hr) hi, fun i him => ?_⟩
    obtain ⟨h1, o, h2, h3⟩ := mem_ready.1 him
    refine wpOp_mono (fun a' w' h' => wpAny_inv Inv ho hstep hend fuel _ a' w' ?_ ?_ h') (hstep listed a w i o h2 hs h1 h3 hi)
    · have := unlisted_setIf h1; omega
    · rw [Array.size_setIfInBounds]; exact hs

theorem getD_set_self {listed : Array Bool} {i : Nat} (h : listed.getD i true = false) : (listed.setIfInBounds i true).getD i false = true := by
  rcases Nat.lt_or_ge i listed.size with h' | h'
  · simp [h']
  · simp [Array.getD, Nat.not_lt.2 h'] at h
theorem getD_set_other {listed : Array Bool} {i j : Nat} (h : j ≠ i) : (listed.setIfInBounds i true).getD j false = listed.getD j false := by
  rw [Array.getD_eq_getD_getElem?, Array.getD_eq_getD_getElem?, Array.getElem?_setIfInBounds_ne (Ne.symm h)]
theorem getD_set_iff {listed : Array Bool} {i j : Nat} (h : listed.getD i true = false) : (listed.setIfInBounds i true).getD j false = true ↔ j = i ∨ listed.getD j false = true := by
  by_cases hj : j = i
  · subst hj; simp only [true_or, iff_true]; exact getD_set_self h
  · rw [getD_set_other hj]; simp [hj]

/-- The law. -/
theorem region_inv {l : List Oper} {id : Nat} {a : Act} {w : World} (hm : P.follows .mixedOrders = true) (ho : orderedB l.toArray = true) (Inv : (Nat → Prop) → Act → World → Prop)
    (h0 : Inv (fun _ => False) a w.drew)
    (hstep : ∀ (L : Nat → Prop) (a : Act) (w : World) (i : Nat) (o : Oper), l[i]? = some o → ¬ L i → (∀ (k : Nat) e, o.after[k]? = some e → Region.binds .any e = true → L e.on) →
      (∀ j o', l[j]? = some o' → L j → ∀ (k : Nat) e, o'.after[k]? = some e → Region.binds .any e = true → L e.on) → Inv L a w → (if Region.wanted o (yielded l.toArray a.tmps) then o.wp P a w (Inv fun j => j = i ∨ L j) Q else Inv (fun j => j = i ∨ L j) (a.put o.dst undef) w))
    (hend : ∀ (L : Nat → Prop) (a : Act) (w : World), (∀ j, j < l.length → L j) → Inv L a w → Q .normal a w) : (Code.region id l.toArray true).wp P Q a w := by
  refine wp_region_any hm (wpAny_inv (fun listed a w => ∃ L : Nat → Prop, (∀ j, listed.getD j false = true ↔ L j) ∧ (∀ j o', l[j]? = some o' → L j → ∀ e ∈ o'.after, Region.binds .any e = true → L e.on) ∧ Inv L a w) ho ?_ ?_ _ _ _ _ ?_ (by simp) ⟨_, fun j => ?_, fun _ _ _ h => h.elim, h0⟩)
  · rintro listed a w i o hi hs hl he ⟨L, hL, hC, hI⟩
    have h1 := hstep L a w i o (by simpa using hi) (by
      intro hc
      have := (hL i).2 hc
      rcases Nat.lt_or_ge i listed.size with h' | h'
      · simp [h'] at this hl; rw [this] at hl; cases hl
      · simp [Array.getD, Nat.not_lt.2 h'] at hl) (fun k e he' hb => (hL _).1 (he e (Array.mem_of_getElem? he') hb)) (fun j o' h1 h2 k e h3 h4 => hC j o' h1 h2 e (Array.mem_of_getElem? h3) h4) hI
    unfold wpOp
    simp only [hi]
    have hset : ∀ j, (listed.setIfInBounds i true).getD j false = true ↔ (j = i ∨ L j) := fun j => by rw [getD_set_iff hl, hL]
    have hC' : ∀ j o', l[j]? = some o' → (j = i ∨ L j) → ∀ e ∈ o'.after, Region.binds .any e = true → (e.on = i ∨ L e.on) := fun j o' hj hd e he' hb => by
      rcases hd with rfl | hd
      · have : o' = o := Option.some.inj (hj.symm.trans (by simpa using hi))
        subst this
        exact .inr ((hL _).1 (he e he' hb))
      · exact .inr (hC j o' hj hd e he' hb)
    split at h1
    · rename_i hw; simp only [hw, if_true]; exact .inl (Oper.wp_mono (fun a' w' h' => ⟨_, hset, hC', h'⟩) h1)
    · rename_i hw; simp only [hw]; exact ⟨_, hset, hC', h1⟩
  · rintro listed a w hall ⟨L, hL, _, hI⟩
    exact hend L a w (fun j hj => (hL j).1 (hall j (by simpa using hj))) hI
  · unfold unlisted; simp
  · simp [Array.getD]
theorem inv_step {l : List Oper} {o : Oper} {a : Act} {w : World} {I : Act → World → Prop} {J : Prop} (hw : Region.wanted o (yielded l.toArray a.tmps) = true)
    (h : ∀ K : Act → World → Prop, (∀ a' w', I a' w' → K a' w') → o.wp P a w K Q) : if Region.wanted o (yielded l.toArray a.tmps) then o.wp P a w I Q else J := by
  rw [if_pos hw]
  exact h I fun _ _ h => h
end
end Go.Proofs.YthbpadjhlkdpeaaGreatDoor
