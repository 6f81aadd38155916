/- The parts Rise, StepsIn, CheckCurve, DWidth1, DWidth, Halv, Sum of a proof, put together by program (merge6.py). -/
import Derived.Test.YtcncdepjbhnknaaGreatDoorH12
import Derived.Test.YtcncdepjbhnknaaGreatDoorH15
import Derived.Test.YtcncdepjbhnknaaGreatDoorH11
set_option linter.unusedVariables false
set_option linter.unusedSimpArgs false
/- detect's rise and the document's slope: from a bend to the next one. -/
namespace Go.Proofs.YtcncdepjbhnknaaGreatDoor
open Go.RowKit Go.Shelf
attribute [local go_sem ↓] Go.wp_at_zero Go.wp_at_succ

/-- Two bends in the blocks g, g + 1. -/
abbrev S8 (g : Nat) (s0 t0 u0 v0 s1 t1 u1 v1 : ByteArray) (w' : World) : Prop := w'.cell? ⟨g, 0, none⟩ = some (.string s0) ∧ w'.cell? ⟨g, 1, none⟩ = some (.string t0) ∧ w'.cell? ⟨g, 2, none⟩ = some (.string u0) ∧ w'.cell? ⟨g, 3, none⟩ = some (.string v0) ∧
  w'.cell? ⟨g + 1, 0, none⟩ = some (.string s1) ∧ w'.cell? ⟨g + 1, 1, none⟩ = some (.string t1) ∧ w'.cell? ⟨g + 1, 2, none⟩ = some (.string u1) ∧ w'.cell? ⟨g + 1, 3, none⟩ = some (.string v1)
set_option maxRecDepth 100000 in
set_option maxHeartbeats 4000000 in
theorem rise_to {a b c d : Rat} {s0 t0 u0 v0 s1 t1 u1 v1 x1 y1 x2 y2 x y : ByteArray} (hc : IsP c s0 t0) (ha : IsP a u0 v0) (hd : IsP d s1 t1) (hb : IsP b u1 v1) (h1 : IsP (b - a) x1 y1) (h2 : IsP (d - c) x2 y2) (h3 : IsP ((b - a) / (d - c)) x y) (hp : 0 < d - c)
    (w : World) (hT : Tabs w) : Calls Tryz.prog 57 #[.agg #[.string s0, .string t0, .string u0, .string v0], .agg #[.string s1, .string t1, .string u1, .string v1]] w (ValPost (pV x y) w) := by
  have HC := Lib.hid hc
  have HA := Lib.hid ha
  have HD := Lib.hid hd
  have HBB := Lib.hid hb
  have H1 := Lib.hid h1
  have H2 := Lib.hid h2
  have H3 := Lib.hid h3
  have HP := Lib.hid hp
  have HT := Lib.hid hT
  clear hc ha hd hb h1 h2 h3 hp hT
  go_enter Tryz.func57, Tryz.ntmps57
  go_wp2_with fail
  obtain ⟨w0, hw0⟩ : ∃ w0, ((w.alloc (bO s0 t0 u0 v0)).alloc (bO s1 t1 u1 v1)).alloc (pObj ⟨#[]⟩ ⟨#[]⟩) = w0 := ⟨_, rfl⟩
  rw [hw0]
  have HX0 : Hid (Boxes w.heap.size [bO s0 t0 u0 v0, bO s1 t1 u1 v1, pObj ⟨#[]⟩ ⟨#[]⟩] w0.drew) := by rw [← hw0]; exact (Boxes.three w _ _ _).drew
  have HB0 : Hid (Below w.heap.size w w0.drew) := by rw [← hw0]; exact ((((Below.refl _ w).alloc (Nat.le_refl _) _).alloc (by simp) _).alloc (by simp <;> omega) _).drew
  clear hw0
  have a0 := HX0.out.cell 0 0 (b := w.heap.size) rfl rfl rfl
  have a1 := HX0.out.cell 0 1 (b := w.heap.size) rfl rfl rfl
  have a2 := HX0.out.cell 0 2 (b := w.heap.size) rfl rfl rfl
  have a3 := HX0.out.cell 0 3 (b := w.heap.size) rfl rfl rfl
  have b0 := HX0.out.cell 1 0 (b := w.heap.size + 1) rfl rfl rfl
  have b1 := HX0.out.cell 1 1 (b := w.heap.size + 1) rfl rfl rfl
  have b2 := HX0.out.cell 1 2 (b := w.heap.size + 1) rfl rfl rfl
  have b3 := HX0.out.cell 1 3 (b := w.heap.size + 1) rfl rfl rfl
  have hS0 : S8 w.heap.size s0 t0 u0 v0 s1 t1 u1 v1 w0.drew := ⟨a0, a1, a2, a3, b0, b1, b2, b3⟩
  refine steps_plain [(true, 0), (true, 1), (true, 2), (true, 3), (true, 8), (true, 9), (true, 10), (true, 11), (false, 4), (true, 5), (true, 6), (false, 7), (false, 12), (true, 13), (true, 14), (false, 15), (false, 16), (true, 17), (true, 18), (false, 19), (false, 20)] (S8 w.heap.size s0 t0 u0 v0 s1 t1 u1 v1) (fun _ => false)
    (by kernel_rfl) (by kernel_rfl) (fun _ _ => rfl) (fun _ _ o _ _ h => by cases o <;> exact h) hS0 ?_
  clear hS0
  iterate 8
    refine steps_read _ rfl rfl (fun w' hS => by obtain ⟨a0, a1, a2, a3, b0, b1, b2, b3⟩ := hS; go_simp; rfl) ?_
    simp only [Act.put, List.setIfInBounds_toArray, List.set_cons_zero, List.set_cons_succ]
  refine steps_write rfl rfl fun K hK => ?_
  go_simp
  go_at_call 41
  refine (sub_to HBB.out HA.out H1.out rfl _ (HT.out.below HB0.out (Nat.le_refl _))).mono ?_
  rintro e w1 ⟨rfl, hb⟩
  have HX1 := Lib.hid (HX0.out.below hb HX0.out.lt)
  have HB1 : Hid (Below w.heap.size w w1) := HB0.out.trans (hb.mono HB0.out.size)
  clear a0 a1 a2 a3 b0 b1 b2 b3
  have a0 := HX1.out.cell 0 0 (b := w.heap.size) rfl rfl rfl
  have a1 := HX1.out.cell 0 1 (b := w.heap.size) rfl rfl rfl
  have a2 := HX1.out.cell 0 2 (b := w.heap.size) rfl rfl rfl
  have a3 := HX1.out.cell 0 3 (b := w.heap.size) rfl rfl rfl
  have b0 := HX1.out.cell 1 0 (b := w.heap.size + 1) rfl rfl rfl
  have b1 := HX1.out.cell 1 1 (b := w.heap.size + 1) rfl rfl rfl
  have b2 := HX1.out.cell 1 2 (b := w.heap.size + 1) rfl rfl rfl
  have b3 := HX1.out.cell 1 3 (b := w.heap.size + 1) rfl rfl rfl
  refine hK _ _ (.inr ⟨a0, a1, a2, a3, b0, b1, b2, b3⟩) ?_
  clear hK K hb
  iterate 2
    refine steps_read _ rfl rfl (fun w' hS => by go_simp; rfl) ?_
    simp only [Act.put, List.setIfInBounds_toArray, List.set_cons_zero, List.set_cons_succ]
  refine steps_write rfl rfl fun K hK => ?_
  go_simp
  go_at_call 77
  refine (dmust_ok x1 y1 _).mono ?_
  rintro e w2 ⟨rfl, hb⟩
  have HX2 := Lib.hid (HX1.out.below hb HX1.out.lt)
  have HB2 : Hid (Below w.heap.size w w2) := HB1.out.trans (hb.mono HB1.out.size)
  clear a0 a1 a2 a3 b0 b1 b2 b3
  have a0 := HX2.out.cell 0 0 (b := w.heap.size) rfl rfl rfl
  have a1 := HX2.out.cell 0 1 (b := w.heap.size) rfl rfl rfl
  have a2 := HX2.out.cell 0 2 (b := w.heap.size) rfl rfl rfl
  have a3 := HX2.out.cell 0 3 (b := w.heap.size) rfl rfl rfl
  have b0 := HX2.out.cell 1 0 (b := w.heap.size + 1) rfl rfl rfl
  have b1 := HX2.out.cell 1 1 (b := w.heap.size + 1) rfl rfl rfl
  have b2 := HX2.out.cell 1 2 (b := w.heap.size + 1) rfl rfl rfl
  have b3 := HX2.out.cell 1 3 (b := w.heap.size + 1) rfl rfl rfl
  refine hK _ _ (.inr ⟨a0, a1, a2, a3, b0, b1, b2, b3⟩) ?_
  clear hK K hb
  refine steps_write rfl rfl fun K hK => ?_
  go_simp
  go_at_call 41
  refine (sub_to HD.out HC.out H2.out rfl _ (HT.out.below HB2.out (Nat.le_refl _))).mono ?_
  rintro e w3 ⟨rfl, hb⟩
  have HX3 := Lib.hid (HX2.out.below hb HX2.out.lt)
  have HB3 : Hid (Below w.heap.size w w3) := HB2.out.trans (hb.mono HB2.out.size)
  clear a0 a1 a2 a3 b0 b1 b2 b3
  have a0 := HX3.out.cell 0 0 (b := w.heap.size) rfl rfl rfl
  have a1 := HX3.out.cell 0 1 (b := w.heap.size) rfl rfl rfl
  have a2 := HX3.out.cell 0 2 (b := w.heap.size) rfl rfl rfl
  have a3 := HX3.out.cell 0 3 (b := w.heap.size) rfl rfl rfl
  have b0 := HX3.out.cell 1 0 (b := w.heap.size + 1) rfl rfl rfl
  have b1 := HX3.out.cell 1 1 (b := w.heap.size + 1) rfl rfl rfl
  have b2 := HX3.out.cell 1 2 (b := w.heap.size + 1) rfl rfl rfl
  have b3 := HX3.out.cell 1 3 (b := w.heap.size + 1) rfl rfl rfl
  refine hK _ _ (.inr ⟨a0, a1, a2, a3, b0, b1, b2, b3⟩) ?_
  clear hK K hb
  iterate 2
    refine steps_read _ rfl rfl (fun w' hS => by go_simp; rfl) ?_
    simp only [Act.put, List.setIfInBounds_toArray, List.set_cons_zero, List.set_cons_succ]
  refine steps_write rfl rfl fun K hK => ?_
  go_simp
  go_at_call 77
  refine (dmust_ok x2 y2 _).mono ?_
  rintro e w4 ⟨rfl, hb⟩
  have HX4 := Lib.hid (HX3.out.below hb HX3.out.lt)
  have HB4 : Hid (Below w.heap.size w w4) := HB3.out.trans (hb.mono HB3.out.size)
  clear a0 a1 a2 a3 b0 b1 b2 b3
  have a0 := HX4.out.cell 0 0 (b := w.heap.size) rfl rfl rfl
  have a1 := HX4.out.cell 0 1 (b := w.heap.size) rfl rfl rfl
  have a2 := HX4.out.cell 0 2 (b := w.heap.size) rfl rfl rfl
  have a3 := HX4.out.cell 0 3 (b := w.heap.size) rfl rfl rfl
  have b0 := HX4.out.cell 1 0 (b := w.heap.size + 1) rfl rfl rfl
  have b1 := HX4.out.cell 1 1 (b := w.heap.size + 1) rfl rfl rfl
  have b2 := HX4.out.cell 1 2 (b := w.heap.size + 1) rfl rfl rfl
  have b3 := HX4.out.cell 1 3 (b := w.heap.size + 1) rfl rfl rfl
  refine hK _ _ (.inr ⟨a0, a1, a2, a3, b0, b1, b2, b3⟩) ?_
  clear hK K hb
  refine steps_write rfl rfl fun K hK => ?_
  go_simp
  go_at_call 104
  refine (div_to H1.out H2.out H3.out HP.out rfl _ (HT.out.below HB4.out (Nat.le_refl _))).mono ?_
  rintro e w5 ⟨rfl, hb⟩
  have HX5 := Lib.hid (HX4.out.below hb HX4.out.lt)
  have HB5 : Hid (Below w.heap.size w w5) := HB4.out.trans (hb.mono HB4.out.size)
  clear a0 a1 a2 a3 b0 b1 b2 b3
  have a0 := HX5.out.cell 0 0 (b := w.heap.size) rfl rfl rfl
  have a1 := HX5.out.cell 0 1 (b := w.heap.size) rfl rfl rfl
  have a2 := HX5.out.cell 0 2 (b := w.heap.size) rfl rfl rfl
  have a3 := HX5.out.cell 0 3 (b := w.heap.size) rfl rfl rfl
  have b0 := HX5.out.cell 1 0 (b := w.heap.size + 1) rfl rfl rfl
  have b1 := HX5.out.cell 1 1 (b := w.heap.size + 1) rfl rfl rfl
  have b2 := HX5.out.cell 1 2 (b := w.heap.size + 1) rfl rfl rfl
  have b3 := HX5.out.cell 1 3 (b := w.heap.size + 1) rfl rfl rfl
  refine hK _ _ (.inr ⟨a0, a1, a2, a3, b0, b1, b2, b3⟩) ?_
  clear hK K hb
  iterate 2
    refine steps_read _ rfl rfl (fun w' hS => by go_simp; rfl) ?_
    simp only [Act.put, List.setIfInBounds_toArray, List.set_cons_zero, List.set_cons_succ]
  refine steps_write rfl rfl fun K hK => ?_
  go_simp
  go_at_call 77
  refine (dmust_ok x y _).mono ?_
  rintro e w6 ⟨rfl, hb⟩
  have HX6 := Lib.hid (HX5.out.below hb HX5.out.lt)
  have HB6 : Hid (Below w.heap.size w w6) := HB5.out.trans (hb.mono HB5.out.size)
  clear a0 a1 a2 a3 b0 b1 b2 b3
  have a0 := HX6.out.cell 0 0 (b := w.heap.size) rfl rfl rfl
  have a1 := HX6.out.cell 0 1 (b := w.heap.size) rfl rfl rfl
  have a2 := HX6.out.cell 0 2 (b := w.heap.size) rfl rfl rfl
  have a3 := HX6.out.cell 0 3 (b := w.heap.size) rfl rfl rfl
  have b0 := HX6.out.cell 1 0 (b := w.heap.size + 1) rfl rfl rfl
  have b1 := HX6.out.cell 1 1 (b := w.heap.size + 1) rfl rfl rfl
  have b2 := HX6.out.cell 1 2 (b := w.heap.size + 1) rfl rfl rfl
  have b3 := HX6.out.cell 1 3 (b := w.heap.size + 1) rfl rfl rfl
  refine hK _ _ (.inr ⟨a0, a1, a2, a3, b0, b1, b2, b3⟩) ?_
  clear hK K hb
  have r0 := HX6.out.cell 2 0 (b := w.heap.size + 1 + 1) rfl rfl rfl
  have r1 := HX6.out.cell 2 1 (b := w.heap.size + 1 + 1) rfl rfl rfl
  have f0 := HX6.out.free 2 0 (b := w.heap.size + 1 + 1) rfl rfl
  have f1 := HX6.out.free 2 1 (b := w.heap.size + 1 + 1) rfl rfl
  refine steps_write rfl rfl fun K hK => ?_
  go_simp
  have q := two_put_cells (HX6.out.block 2 (b := w.heap.size + 1 + 1) rfl rfl) (.string x) (.string y)
  have HBQ := Lib.hid (two_put_below HB6.out (b := w.heap.size + 1 + 1) (by omega) (.string x) (.string y))
  have hS9 : S8 w.heap.size s0 t0 u0 v0 s1 t1 u1 v1 ((w6.setCell ⟨w.heap.size + 1 + 1, 0, none⟩ (.string x)).setCell ⟨w.heap.size + 1 + 1, 1, none⟩ (.string y)) := by
    refine ⟨?_, ?_, ?_, ?_, ?_, ?_, ?_, ?_⟩ <;> (rw [World.cell?_setCell_other _ _ _ _ (by simp <;> omega), World.cell?_setCell_other _ _ _ _ (by simp <;> omega)]; assumption)
  refine hK _ _ (.inr hS9) ?_
  clear hK K hS9 a0 a1 a2 a3 b0 b1 b2 b3
  refine steps_end ?_
  obtain ⟨w9, hw9⟩ : ∃ w9, (w6.setCell ⟨w.heap.size + 1 + 1, 0, none⟩ (.string x)).setCell ⟨w.heap.size + 1 + 1, 1, none⟩ (.string y) = w9 := ⟨_, rfl⟩
  rw [hw9] at q HBQ ⊢
  obtain ⟨q0, q1⟩ := q
  clear r0 r1 f0 f1 hw9
  go_wp2
  refine bodyPost_ret (v := pV x y) (by simp [results, Tryz.f57, go_sem, q0, q1]) rfl ⟨rfl, HBQ.out⟩
end Go.Proofs.YtcncdepjbhnknaaGreatDoor
/- XSteps' law in a round of a range over a function. -/
namespace Go.Proofs.YtcncdepjbhnknaaGreatDoor
open Go.RowKit

theorem steps_in_round {P : Program} {n r id : Nat} {Q : Exit → Act → World → Prop} {a : Act} {w : World} {l : List Oper} (ks : List (Bool × Nat)) (S : World → Prop) (bar : Nat → Bool) (hm : P.follows .mixedOrders = true)
    (hB : stepsOk l ks bar = true) (hbo : ∀ j, l.length ≤ j → bar j = false) (hQ : ∀ c a o v w, Q (.panic c) (a.put o v) w → Q (.panic c) a w) (hout : ∀ a w, ¬ Q .outgrown a w) (hS : S w.drew)
    (H : steps P l.toArray Q S bar ks a w.drew) : (Code.region id l.toArray true).wpIn (Fence.wide.inRound r) n P Q a w := by
  have hd : noDefer l.toArray = true := by simp only [stepsOk, Bool.and_eq_true] at hB; exact hB.2
  exact wpIn_region_any hm (wpAnyIn_of_wpAny hd hout _ _ _ _ (region_steps ks S bar hB hbo hQ hS H))
/-- No panic, and no end of the model's bounds. -/
def Calm (Q : Exit → Act → World → Prop) : Exit → Act → World → Prop
  | .panic _, _, _ => False
  | .outgrown, _, _ => False
  | e, a, w => Q e a w
theorem Calm.of {Q : Exit → Act → World → Prop} : ∀ {e : Exit} {a : Act} {w : World}, Calm Q e a w → Q e a w
  | .panic _, _, _, h => h.elim
  | .outgrown, _, _, h => h.elim
  | .normal, _, _, h => h
  | .ret, _, _, h => h
  | .exit _, _, _, h => h
  | .goto _, _, _, h => h
theorem calls_calm {P : Program} {f : FuncId} {fn : Func} {c : Code} {args : Array Value} {w : World} {R : Ending → World → Prop} (hf : P.funcs[f]? = some fn) (hb : fn.body = some c)
    (h : c.wp P (Calm (bodyPostM Fence.wide 9 P fn R)) { tmps := args ++ Array.replicate (fn.ntmps - args.size) undef, defers := [] } w) : Calls P f args w R :=
  (callsIn_wide (n := 9)).1 (callsIn_of_wp_marks hf hb trivial (wpIn_mono (wpIn_wide.2 h) fun _ _ _ h => h.of) rfl)
end Go.Proofs.YtcncdepjbhnknaaGreatDoor
/- detect's CheckCurve. -/
namespace Go.Proofs.YtcncdepjbhnknaaGreatDoor
open Go.RowKit Go.Shelf
attribute [local go_sem ↓] Go.wp_at_zero Go.wp_at_succ
attribute [local go_sem] Oper.semAt_some

theorem steps_skip {P : Program} {ops : Array Oper} {Q : Exit → Act → World → Prop} {S : World → Prop} {bar : Nat → Bool} {i : Nat} {o : Oper} {ks : List (Bool × Nat)} {a : Act} {w : World} (ho : ops[i]? = some o) (hw : Region.wanted o (yielded ops a.tmps) = false)
    (h : steps P ops Q S bar ks (a.put o.dst undef) w) : steps P ops Q S bar ((true, i) :: ks) a w := ⟨o, undef, ho, .inr ⟨hw, rfl⟩, h⟩
theorem steps_skipw {P : Program} {ops : Array Oper} {Q : Exit → Act → World → Prop} {S : World → Prop} {bar : Nat → Bool} {i : Nat} {o : Oper} {ks : List (Bool × Nat)} {a : Act} {w : World} (ho : ops[i]? = some o) (hw : Region.wanted o (yielded ops a.tmps) = false) (hS : S w)
    (h : steps P ops Q S bar ks (a.put o.dst undef) w) : steps P ops Q S bar ((false, i) :: ks) a w := by
  refine ⟨o, ho, ?_⟩
  rw [if_neg (by rw [hw]; exact Bool.false_ne_true)]
  exact ⟨.inr hS, h⟩
def CurvePost (bs : List BB) (w : World) (e : Ending) (w' : World) : Prop := ∃ n, e = .returned (.int .i64 n) ∧ CurveE bs n ∧ Below w.heap.size w w'
set_option maxRecDepth 100000 in
set_option maxHeartbeats 2000000 in
theorem curve_len {p : Option Addr} {c n : Nat} {bs : List BB} {w : World} (hn : bs.length = n) (hm : n ≤ 9223372036854775807) (h : (decide ((2 : Int) ≤ n) && decide ((n : Int) ≤ 64)) = false) :
    Calls Tryz.prog 22 #[.slice p n c] w (CurvePost bs w) := by
  have HE : Hid (CurveE bs 2) := .inr ⟨fun hc => by
    have := hc.len
    simp at h
    omega, rfl⟩
  have H := Lib.hid h
  clear h hn
  go_enter Tryz.func22, Tryz.ntmps22
  go_wp2
  refine steps_plain [(true, 0), (true, 1), (false, 2), (true, 3), (true, 4), (true, 5), (true, 6), (true, 7), (true, 8), (true, 9), (true, 10), (true, 11), (true, 12)] (fun _ => True) (fun _ => false)
    (by kernel_rfl) (by kernel_rfl) (fun _ _ => rfl) (fun _ _ o _ _ h => by cases o <;> exact h) trivial ?_
  iterate 2
    refine steps_read _ rfl rfl (fun w' hS => by go_simp; rfl) ?_
    simp only [List.getElem_toArray, List.getElem_cons_succ, List.getElem_cons_zero, Act.put, List.setIfInBounds_toArray, List.set_cons_zero, List.set_cons_succ]
  refine steps_write rfl rfl fun K hK => ?_
  go_simp
  go_at_call 49
  refine (within_any n 2 64 _).mono ?_
  rintro e w2 ⟨rfl, hb⟩
  rw [H.out]
  have hbx : ((w.alloc (.cells #[.int .i64 0] 24)).drew).heap[w.heap.size]? = some (.cells #[.int .i64 0] 24) := World.alloc_heap_new w _
  have hb0 : Below w.heap.size w ((w.alloc (.cells #[.int .i64 0] 24)).drew) := ((Below.refl _ w).alloc (Nat.le_refl _) _).drew
  have hbx2 : w2.heap[w.heap.size]? = some (.cells #[.int .i64 0] 24) := (hb.block _ (Array.getElem?_eq_some_iff.1 hbx).1).trans hbx
  have HB2 : Hid (Below w.heap.size w w2) := hb0.trans (hb.mono hb0.size)
  have c0 := known_cell hbx2 0 rfl
  have f0 := known_frozen hbx2 0
  have HX2 := Lib.hid hbx2
  refine hK _ _ (.inr trivial) ?_
  clear hK K hb hbx hb0 hbx2
  iterate 2
    refine steps_read _ rfl rfl (fun w' hS => by go_simp; rfl) ?_
    simp only [List.getElem_toArray, List.getElem_cons_succ, List.getElem_cons_zero, Act.put, List.setIfInBounds_toArray, List.set_cons_zero, List.set_cons_succ]
  iterate 7
    refine steps_skip rfl rfl ?_
    simp only [List.getElem_toArray, List.getElem_cons_succ, List.getElem_cons_zero, Act.put, List.setIfInBounds_toArray, List.set_cons_zero, List.set_cons_succ]
  iterate 1
    refine steps_read _ rfl rfl (fun w' hS => by go_simp; rfl) ?_
    simp only [List.getElem_toArray, List.getElem_cons_succ, List.getElem_cons_zero, Act.put, List.setIfInBounds_toArray, List.set_cons_zero, List.set_cons_succ]
  refine steps_end ?_
  go_wp2
  have q : (w2.setCell ⟨w.heap.size, 0, none⟩ (.int .i64 2)).cell? ⟨w.heap.size, 0, none⟩ = some (.int .i64 2) := known_cell (Joins.block_setCell HX2.out _) 0 rfl
  refine bodyPost_ret (v := .int .i64 2) (by simp [results, Tryz.f22, go_sem, q]) rfl ⟨2, rfl, HE.out, HB2.out.setCell (p := ⟨w.heap.size, 0, none⟩) (Nat.le_refl _) _⟩
/-- The first bend, and the variable zero. -/
abbrev SF (b off : Nat) (s t u v : ByteArray) (w' : World) : Prop := (w'.cell? ⟨b, off, none⟩ = some (.string s) ∧ w'.cell? ⟨b, off + 1, none⟩ = some (.string t) ∧ w'.cell? ⟨b, off + 2, none⟩ = some (.string u) ∧ w'.cell? ⟨b, off + 3, none⟩ = some (.string v)) ∧
  w'.cell? ⟨0, 0, none⟩ = some (.string ⟨#[48]⟩) ∧ w'.cell? ⟨0, 1, none⟩ = some (.string ⟨#[49]⟩)
set_option maxRecDepth 100000 in
set_option maxHeartbeats 2000000 in
theorem curve_first {b off c n : Nat} {bs : List BB} {w : World} {s t u v : ByteArray} (hn : bs.length = n) (hm : 2 ≤ n) (hm2 : n ≤ 64) (hf : bAt bs 0 = ((s, t), (u, v))) (hne : Hid (s.toList = [48] → t.toList = [49] → u.toList = [48] → ¬ v.toList = [49])) (hz : bAt bs 0 ≠ zeroB)
    (hS : ∀ W, Below w.heap.size w W → SF b off s t u v W) :
    Calls Tryz.prog 22 #[.slice (some ⟨b, off, none⟩) n c] w (CurvePost bs w) := by
  have HE : Hid (CurveE bs 2) := .inr ⟨fun hc => hz hc.first, rfl⟩
  have H : Hid ((decide ((2 : Int) ≤ n) && decide ((n : Int) ≤ 64)) = true) := by show _ = _; simp; omega
  have HS := Lib.hid hS
  clear hf hn hS hz
  go_enter Tryz.func22, Tryz.ntmps22
  go_wp2
  have hbx : ((w.alloc (.cells #[.int .i64 0] 24)).drew).heap[w.heap.size]? = some (.cells #[.int .i64 0] 24) := World.alloc_heap_new w _
  have hb0 : Below w.heap.size w ((w.alloc (.cells #[.int .i64 0] 24)).drew) := ((Below.refl _ w).alloc (Nat.le_refl _) _).drew
  obtain ⟨w1, hw1⟩ : ∃ z, w.alloc (.cells #[.int .i64 0] 24) = z := ⟨_, rfl⟩
  rw [hw1] at hbx hb0 ⊢
  have hSF := HS.out _ hb0
  refine steps_plain [(true, 0), (true, 1), (false, 2), (true, 3), (true, 4), (true, 5), (true, 6), (true, 7), (true, 8), (true, 9), (true, 10), (true, 11), (true, 12)] (SF b off s t u v) (fun _ => false)
    (by kernel_rfl) (by kernel_rfl) (fun _ _ => rfl) (fun _ _ o _ _ h => by cases o <;> exact h) hSF ?_
  skip
  iterate 2
    refine steps_read _ rfl rfl (fun w' hS => by go_simp; rfl) ?_
    simp only [List.getElem_toArray, List.getElem_cons_succ, List.getElem_cons_zero, Act.put, List.setIfInBounds_toArray, List.set_cons_zero, List.set_cons_succ]
  refine steps_write rfl rfl fun K hK => ?_
  go_simp
  go_at_call 49
  refine (within_any _ 2 64 _).mono ?_
  rintro e w2 ⟨rfl, hb⟩
  rw [H.out]
  have hbx2 : w2.heap[w.heap.size]? = some (.cells #[.int .i64 0] 24) := (hb.block _ (Array.getElem?_eq_some_iff.1 hbx).1).trans hbx
  have HB2 : Hid (Below w.heap.size w w2) := hb0.trans (hb.mono hb0.size)
  have HX2 := Lib.hid hbx2
  have hSF2 := HS.out _ HB2.out
  refine hK _ _ (.inr hSF2) ?_
  clear hK K hb hbx hb0 hbx2 hw1 hSF hSF2
  iterate 8
    refine steps_read _ rfl rfl (fun w' hS => by obtain ⟨⟨a0, a1, a2, a3⟩, z0, z1⟩ := hS; go_simp; first | rfl | (rw [if_pos (by omega)])) ?_
    simp only [List.getElem_toArray, List.getElem_cons_succ, List.getElem_cons_zero, Act.put, List.setIfInBounds_toArray, List.set_cons_zero, List.set_cons_succ]
  refine steps_read (.bool true) rfl rfl (fun w' hS => by obtain ⟨⟨a0, a1, a2, a3⟩, z0, z1⟩ := hS; go_simp; exact hne.out) ?_
  simp only [List.getElem_toArray, List.getElem_cons_succ, List.getElem_cons_zero, Act.put, List.setIfInBounds_toArray, List.set_cons_zero, List.set_cons_succ]
  skip
  iterate 1
    refine steps_read _ rfl rfl (fun w' hS => by obtain ⟨⟨a0, a1, a2, a3⟩, z0, z1⟩ := hS; go_simp; first | rfl | (rw [if_pos (by omega)])) ?_
    simp only [List.getElem_toArray, List.getElem_cons_succ, List.getElem_cons_zero, Act.put, List.setIfInBounds_toArray, List.set_cons_zero, List.set_cons_succ]
  refine steps_end ?_
  have c0 := known_cell HX2.out 0 rfl
  have f0 := known_frozen HX2.out 0
  go_wp2
  have q : (w2.setCell ⟨w.heap.size, 0, none⟩ (.int .i64 2)).cell? ⟨w.heap.size, 0, none⟩ = some (.int .i64 2) := known_cell (Joins.block_setCell HX2.out _) 0 rfl
  refine bodyPost_ret (v := .int .i64 2) (by simp [results, Tryz.f22, go_sem, q]) rfl ⟨2, rfl, HE.out, HB2.out.setCell (p := ⟨w.heap.size, 0, none⟩) (Nat.le_refl _) _⟩
/-- The last chance, and the variable one. -/
abbrev SL2 (b o : Nat) (x y : ByteArray) (w' : World) : Prop := (w'.cell? ⟨b, o + 2, none⟩ = some (.string x) ∧ w'.cell? ⟨b, o + 3, none⟩ = some (.string y)) ∧
  w'.cell? ⟨1, 0, none⟩ = some (.string ⟨#[49]⟩) ∧ w'.cell? ⟨1, 1, none⟩ = some (.string ⟨#[49]⟩)
/-- What the program's walk of a curve that begins right is told. -/
structure CurveIn (b off r c : Nat) (bs : List BB) (w : World) : Prop where
  len : bs.length = r + 1
  two : 1 ≤ r
  most : r ≤ 63
  cap : r + 1 ≤ c ∧ c ≤ 9223372036854775807
  first : bAt bs 0 = zeroB
  lim : ∀ x ∈ bs, (x.1.1.size ≤ 1000000 ∧ x.1.2.size ≤ 1000000) ∧ (x.2.1.size ≤ 1000000 ∧ x.2.2.size ≤ 1000000)
  lt : b < w.heap.size
  cells : ∀ W, Below w.heap.size w W → BCells b off (r + 1) bs W
  det : DetV w
  tabs : Tabs w
theorem CurveIn.bl {b off r c : Nat} {bs : List BB} {w W : World} (h : CurveIn b off r c bs w) (hW : Below w.heap.size w W) : BL W (.slice (some ⟨b, off, none⟩) (r + 1) c) bs := by
  have h1 := h.len
  refine ⟨_, c, by rw [h1], by rw [h1]; exact h.cap.1, by unfold maxLen; exact h.cap.2, fun _ => ⟨b, off, rfl, Nat.lt_of_lt_of_le h.lt hW.size, fun j hj => ?_⟩⟩
  have := h.cells W hW j (by omega)
  rwa [bAt_get hj] at this
theorem CurveIn.sf {b off r c : Nat} {bs : List BB} {w W : World} (h : CurveIn b off r c bs w) (hW : Below w.heap.size w W) : SF b off ⟨#[48]⟩ ⟨#[49]⟩ ⟨#[48]⟩ ⟨#[49]⟩ W := by
  have h1 := h.cells W hW 0 (by omega)
  rw [h.first, Nat.zero_mul, Nat.add_zero] at h1
  have hd := h.det.below hW (Nat.le_refl _)
  exact ⟨h1, hd.z0, hd.z1⟩
theorem CurveIn.sl {b off r c : Nat} {bs : List BB} {w W : World} (h : CurveIn b off r c bs w) (hW : Below w.heap.size w W) : SL2 b (off + r * 4) (bAt bs r).2.1 (bAt bs r).2.2 W := by
  have h1 := h.cells W hW r (by omega)
  have hd := h.det.below hW (Nat.le_refl _)
  exact ⟨⟨h1.2.2.1, h1.2.2.2⟩, hd.o0, hd.o1⟩
def notSmall (bs : List BB) (k : Nat) : Bool := !(smallP 18 (bAt bs k).1 && smallP 18 (bAt bs k).2)
theorem CurveIn.cf {b off r c : Nat} {bs : List BB} {w W : World} (h : CurveIn b off r c bs w) (hW : Below w.heap.size w W) :
    Calls Tryz.prog 53 #[.slice (some ⟨b, off, none⟩) (r + 1) c, .func (.func 54) #[] #[]] W (AnyPost W (r + 1) (notSmall bs)) :=
  containsB_any (enters_of Tryz.func54 (by kernel_rfl) rfl) (h.bl hW) h.len fun k hk W2 _ => by
    obtain ⟨⟨z1, z2⟩, z3, z4⟩ := h.lim _ (bAt_mem (bs := bs) (i := k) (by rw [h.len]; exact hk))
    exact checkCurve1_any _ _ _ _ z1 z2 z3 z4 W2
end Go.Proofs.YtcncdepjbhnknaaGreatDoor
/- Width's closures: does a sight fit; which of two has the lesser sea. -/
namespace Go.Proofs.YtcncdepjbhnknaaGreatDoor
open Go.RowKit Go.Shelf
attribute [local go_sem ↓] Go.wp_at_zero Go.wp_at_succ

set_option maxRecDepth 100000 in
set_option maxHeartbeats 1000000 in
theorem width2_any (a b : Sg) (ha : inSg a) (hb : inSg b) (w : World) : Calls Tryz.prog 47 #[sV a, sV b] w (ValPost (.int .i64 (a.se - b.se)) w) := by
  obtain ⟨_, _, _, h4, _⟩ := ha
  obtain ⟨_, _, _, g4, _⟩ := hb
  obtain ⟨ax, ay, az, sa, ad⟩ := a
  obtain ⟨bx, by', bz, sb, bd⟩ := b
  dsimp only at h4 g4
  have w1 : IntKind.i64.wrap (sa - sb) = sa - sb := IntWalk.i64_in _ (by omega)
  go_enter Tryz.func47, Tryz.ntmps47
  go_wp2
  go_ret
  exact ⟨rfl, ((Below.refl _ w).alloc (Nat.le_refl _) _).alloc (by simp) _⟩
theorem info_int64 : ∃ i, Tryz.prog.info? 3 = some i := by
  have h : (Tryz.prog.info? 3).isSome = true := by kernel_rfl
  exact Option.isSome_iff_exists.1 h
theorem int_eq (dd : Nat) (a b : Int) (w : World) : (Op.equalIn (dd + 1) 3 (.int .i64 a) (.int .i64 b)).run Tryz.prog w = .ok (decide (a = b)) w := by
  simp [Op.equalIn, Tryz.underlying3, go_sem]
  rfl
theorem part_int (xs : Array Value) (j : Nat) (n : Int) (h : xs[j]? = some (.int .i64 n)) (w : World) : (part 3 xs j).run Tryz.prog w = .ok (.int .i64 n) w := by
  simp [part, isAgg, Tryz.underlying3, go_sem, h]
theorem key_eq' (dd : Nat) (a b c a' b' c' : Int) (w : World) : (Op.equalIn (dd + 1 + 1) 73 (kV a b c) (kV a' b' c')).run Tryz.prog w = .ok (decide (a = a') && decide (b = b') && decide (c = c')) w := by
  obtain ⟨i, hi⟩ := info_int64
  rw [run_equalIn_array w (dd + 1) _ _ Tryz.underlying73 hi, int_cells]
  have e3 : List.range 3 = [0, 1, 2] := rfl
  rw [e3]
  have p0 := part_int #[.int .i64 a, .int .i64 b, .int .i64 c] 0 a rfl
  have p1 := part_int #[.int .i64 a, .int .i64 b, .int .i64 c] 1 b rfl
  have p2 := part_int #[.int .i64 a, .int .i64 b, .int .i64 c] 2 c rfl
  have q0 := part_int #[.int .i64 a', .int .i64 b', .int .i64 c'] 0 a' rfl
  have q1 := part_int #[.int .i64 a', .int .i64 b', .int .i64 c'] 1 b' rfl
  have q2 := part_int #[.int .i64 a', .int .i64 b', .int .i64 c'] 2 c' rfl
  simp [Op.eqItems, p0, p1, p2, q0, q1, q2, int_eq, Result.andThen]
  clear p0 p1 p2 q0 q1 q2
  repeat' split
  all_goals simp_all
theorem key_eq (a b c a' b' c' : Int) (w : World) : (Op.equalIn 10000 73 (kV a b c) (kV a' b' c')).run Tryz.prog w = .ok (decide (a = a') && decide (b = b') && decide (c = c')) w := key_eq' 9998 a b c a' b' c' w
abbrev kO (a b c : Int) : Obj := .cells #[.int .i64 a, .int .i64 b, .int .i64 c] 73
abbrev iO (a : Int) : Obj := .cells #[.int .i64 a] 3
abbrev SWi (g Bw Bs : Nat) (x y z s d wx wy wz se : Int) (w' : World) : Prop := SB g x y z s d w' ∧ w'.cell? ⟨Bw, 0, none⟩ = some (.int .i64 wx) ∧ w'.cell? ⟨Bw, 1, none⟩ = some (.int .i64 wy) ∧ w'.cell? ⟨Bw, 2, none⟩ = some (.int .i64 wz) ∧ w'.cell? ⟨Bs, 0, none⟩ = some (.int .i64 se)
set_option maxRecDepth 100000 in
set_option maxHeartbeats 4000000 in
theorem width1_any {w : World} (Bw Bs : Nat) (wx wy wz se : Int) (a : Sg) (hw : w.heap[Bw]? = some (kO wx wy wz)) (hs : w.heap[Bs]? = some (iO se)) :
    Calls Tryz.prog 45 #[sV a, .pointer (some ⟨Bw, 0, none⟩), .pointer (some ⟨Bs, 0, none⟩)] w (BoolPost w (fitB wx wy wz se a)) := by
  obtain ⟨x, y, z, s, d⟩ := a
  obtain ⟨W, hW⟩ : ∃ z0, w.alloc (sO x y z s d) = z0 := ⟨_, rfl⟩
  have HB : Hid (Below w.heap.size w W) := by rw [← hW]; exact (Below.refl _ w).alloc (Nat.le_refl _) _
  have HG : Hid (W.heap[w.heap.size]? = some (sO x y z s d)) := by rw [← hW]; exact World.alloc_heap_new w _
  have HS : Hid (∀ V, Below W.heap.size W V → SWi w.heap.size Bw Bs x y z s d wx wy wz se V) := fun V hV => by
    have h1 := (hV.block _ (Array.getElem?_eq_some_iff.1 HG.out).1).trans HG.out
    have hb := HB.out.trans (hV.mono HB.out.size)
    have h2 := (hb.block _ (Array.getElem?_eq_some_iff.1 hw).1).trans hw
    have h3 := (hb.block _ (Array.getElem?_eq_some_iff.1 hs).1).trans hs
    exact ⟨SB.of h1, known_cell h2 0 rfl, known_cell h2 1 rfl, known_cell h2 2 rfl, known_cell h3 0 rfl⟩
  have HW0 : Hid (Below W.heap.size W W.drew) := (Below.refl _ W).drew
  clear hw hs
  go_enter Tryz.func45, Tryz.ntmps45
  go_wp2_with fail
  by_cases hk : x = wx ∧ y = wy ∧ z = wz
  · obtain ⟨rfl, rfl, rfl⟩ := hk
    refine tsteps_plain [(true, 0), (true, 2), (false, 1), (true, 3), (true, 4), (true, 5), (true, 6), (true, 7), (true, 8), (true, 9), (true, 10)] (SWi w.heap.size Bw Bs x y z s d x y z se) (fun _ => false)
      (by kernel_rfl) (by kernel_rfl) (by kernel_rfl) (fun _ _ => rfl) (fun _ _ o _ _ h => by cases o <;> exact h) (HS.out _ HW0.out) ?_
    skip
    iterate 2
      refine steps_read _ rfl rfl (fun w' hS => by obtain ⟨⟨a0, a1, a2, a3, a4⟩, b0, b1, b2, c0⟩ := hS; go_simp; rfl) ?_
      simp only [List.getElem_toArray, List.getElem_cons_succ, List.getElem_cons_zero, Act.put, List.setIfInBounds_toArray, List.set_cons_zero, List.set_cons_succ]
    refine steps_write rfl rfl fun K hK => ?_
    go_simp
    go_at_call 46
    refine (of_any' x y z s d _).mono ?_
    rintro e V2 ⟨rfl, hb⟩
    have HW2 : Hid (Below W.heap.size W V2) := HW0.out.trans (hb.mono HW0.out.size)
    refine hK _ _ (.inr (HS.out _ HW2.out)) ?_
    clear hK K hb
    have hke := key_eq x y z x y z
    simp only [decide_true, Bool.and_self] at hke
    refine steps_read (.bool true) rfl rfl (fun w' hS => by go_simp) ?_
    simp only [List.getElem_toArray, List.getElem_cons_succ, List.getElem_cons_zero, Act.put, List.setIfInBounds_toArray, List.set_cons_zero, List.set_cons_succ]
    skip
    iterate 7
      refine steps_read _ rfl rfl (fun w' hS => by obtain ⟨⟨a0, a1, a2, a3, a4⟩, b0, b1, b2, c0⟩ := hS; go_simp; rfl) ?_
      simp only [List.getElem_toArray, List.getElem_cons_succ, List.getElem_cons_zero, Act.put, List.setIfInBounds_toArray, List.set_cons_zero, List.set_cons_succ]
    refine steps_end ?_
    go_wp2
    go_ret
    exact ⟨by simp [fitB], HB.out.trans (HW2.out.mono HB.out.size)⟩
  · refine tsteps_plain [(true, 0), (true, 2), (false, 1), (true, 3), (true, 4), (true, 5), (true, 6), (true, 7), (true, 8), (true, 9), (true, 10)] (SWi w.heap.size Bw Bs x y z s d wx wy wz se) (fun _ => false)
      (by kernel_rfl) (by kernel_rfl) (by kernel_rfl) (fun _ _ => rfl) (fun _ _ o _ _ h => by cases o <;> exact h) (HS.out _ HW0.out) ?_
    have HF : Hid (fitB wx wy wz se ⟨x, y, z, s, d⟩ = false) := by
      show _ = _
      rw [← Bool.not_eq_true, fitB_iff]
      exact fun h => hk ⟨h.1, h.2.1, h.2.2.1⟩
    have hke := key_eq x y z wx wy wz
    have hkf : (decide (x = wx) && decide (y = wy) && decide (z = wz)) = false := by
      rw [← Bool.not_eq_true]
      intro h
      simp only [Bool.and_eq_true, decide_eq_true_eq] at h
      exact hk ⟨h.1.1, h.1.2, h.2⟩
    rw [hkf] at hke
    clear hk hkf
    skip
    iterate 2
      refine steps_read _ rfl rfl (fun w' hS => by obtain ⟨⟨a0, a1, a2, a3, a4⟩, b0, b1, b2, c0⟩ := hS; go_simp; rfl) ?_
      simp only [List.getElem_toArray, List.getElem_cons_succ, List.getElem_cons_zero, Act.put, List.setIfInBounds_toArray, List.set_cons_zero, List.set_cons_succ]
    refine steps_write rfl rfl fun K hK => ?_
    go_simp
    go_at_call 46
    refine (of_any' x y z s d _).mono ?_
    rintro e V2 ⟨rfl, hb⟩
    have HW2 : Hid (Below W.heap.size W V2) := HW0.out.trans (hb.mono HW0.out.size)
    refine hK _ _ (.inr (HS.out _ HW2.out)) ?_
    clear hK K hb
    refine steps_read (.bool false) rfl rfl (fun w' hS => by go_simp) ?_
    simp only [List.getElem_toArray, List.getElem_cons_succ, List.getElem_cons_zero, Act.put, List.setIfInBounds_toArray, List.set_cons_zero, List.set_cons_succ]
    skip
    iterate 1
      refine steps_read _ rfl rfl (fun w' hS => by obtain ⟨⟨a0, a1, a2, a3, a4⟩, b0, b1, b2, c0⟩ := hS; go_simp; rfl) ?_
      simp only [List.getElem_toArray, List.getElem_cons_succ, List.getElem_cons_zero, Act.put, List.setIfInBounds_toArray, List.set_cons_zero, List.set_cons_succ]
    iterate 4
      refine steps_skip rfl rfl ?_
      simp only [List.getElem_toArray, List.getElem_cons_succ, List.getElem_cons_zero, Act.put, List.setIfInBounds_toArray, List.set_cons_zero, List.set_cons_succ]
    skip
    iterate 2
      refine steps_read _ rfl rfl (fun w' hS => by obtain ⟨⟨a0, a1, a2, a3, a4⟩, b0, b1, b2, c0⟩ := hS; go_simp; rfl) ?_
      simp only [List.getElem_toArray, List.getElem_cons_succ, List.getElem_cons_zero, Act.put, List.setIfInBounds_toArray, List.set_cons_zero, List.set_cons_succ]
    refine steps_end ?_
    go_wp2
    go_ret
    exact ⟨by rw [HF.out]; rfl, HB.out.trans (HW2.out.mono HB.out.size)⟩
end Go.Proofs.YtcncdepjbhnknaaGreatDoor
/- detect's least and Width. -/
namespace Go.Proofs.YtcncdepjbhnknaaGreatDoor
open Go.RowKit Go.Shelf
attribute [local go_sem ↓] Go.wp_at_zero Go.wp_at_succ

/-- What least answers. -/
def LeastPost (l : List Sg) (w : World) (e : Ending) (w' : World) : Prop :=
  ((l = [] ∧ e = .returned (.tuple #[sV noSg, .bool false])) ∨ (∃ m, e = .returned (.tuple #[sV m, .bool true]) ∧ m ∈ l ∧ ∀ x ∈ l, m.se ≤ x.se)) ∧ Below w.heap.size w w'
theorem OwnS.snoc {w : World} {base : Nat} {v : Value} {l : List Sg} {a : Sg} (h : w.ownsRow base 30 5 v (l.length + 1) (scells l ++ [.int .i64 a.sn, .int .i64 a.ob, .int .i64 a.li, .int .i64 a.se, .int .i64 a.wi])) : OwnS w base v (l ++ [a]) := by
  unfold OwnS
  rw [List.length_append, scells_append]
  exact h
set_option maxRecDepth 100000 in
set_option maxHeartbeats 8000000 in
theorem least_any {v : Value} {l : List Sg} {w : World} {wx wy wz se : Int} (Bw Bs : Nat) (hv : SL w v l) (hl : TableP l) (hw : w.heap[Bw]? = some (kO wx wy wz)) (hs : w.heap[Bs]? = some (iO se)) :
    Calls Tryz.prog 44 #[v, .func (.func 45) #[] #[.pointer (some ⟨Bw, 0, none⟩), .pointer (some ⟨Bs, 0, none⟩)], .func (.func 47) #[] #[]] w (LeastPost (fitL l wx wy wz se) w) := by
  obtain ⟨i0, hi, hz0, hz1, hz2⟩ := info_parts info_sight
  obtain ⟨n, hn⟩ : ∃ n, l.length = n := ⟨_, rfl⟩
  obtain ⟨p, c, rfl⟩ : ∃ p c, v = .slice p n c := by obtain ⟨p, c, h, _⟩ := id hv; exact ⟨_, _, by rw [← hn]; exact h⟩
  obtain ⟨_, hcc, hnc⟩ := hv.len
  have hn256 : n ≤ 256 := by rw [← hn]; exact hl.1
  have HV := Lib.hid hv
  have HN := Lib.hid hn
  have HL := Lib.hid hl
  have H1 : Hid (∀ a W, Below w.heap.size w W → Calls Tryz.prog 45 #[sV a, .pointer (some ⟨Bw, 0, none⟩), .pointer (some ⟨Bs, 0, none⟩)] W (BoolPost W (fitB wx wy wz se a))) := fun a W hW =>
    width1_any Bw Bs wx wy wz se a ((hW.block _ (Array.getElem?_eq_some_iff.1 hw).1).trans hw) ((hW.block _ (Array.getElem?_eq_some_iff.1 hs).1).trans hs)
  obtain ⟨w1, hw1⟩ : ∃ z, w.alloc (sO 0 0 0 0 0) = z := ⟨_, rfl⟩
  have HX1 : Hid (Boxes w.heap.size [sO 0 0 0 0 0] w1) := by rw [← hw1]; exact Boxes.one w _
  have HB1 : Hid (Below w.heap.size w w1) := by rw [← hw1]; exact (Below.refl _ w).alloc (Nat.le_refl _) _
  have hs1 : w1.heap.size = w.heap.size + 1 := by rw [← hw1]; simp
  have HO1 : Hid (OwnS w1 (w.heap.size + 1) (.slice none 0 0) (fitL (l.take 0) wx wy wz se)) := OwnS.nil _ _
  clear hv hn hl hw hs
  go_enter Tryz.func44, Tryz.ntmps44
  go_wp2_with fail
  clear hw1
  go_loopw [8, 14] (fun vo i wr => ∃ k : Nat, i = .int .i64 k ∧ k ≤ n ∧ Hid (OwnS wr (w.heap.size + 1) vo (fitL (l.take k) wx wy wz se)) ∧ Hid (Boxes w.heap.size [sO 0 0 0 0 0] wr) ∧ Hid (Below w.heap.size w wr)) (fun _ i _ => n - (intOf i).toNat)
  case atStart => exact ⟨0, rfl, Nat.zero_le _, HO1, HX1, HB1⟩
  case round =>
    obtain ⟨k, rfl, hk, HO, HX, HB⟩ := hrel
    obtain ⟨po, m, co, rfl, hm⟩ := HO.out.shape
    have HM := Lib.hid hm
    clear hm
    by_cases hlt : k < n
    · obtain ⟨b, off, rfl, hb, hat⟩ := HV.out.at HN.out (by omega)
      obtain ⟨a0, a1, a2, a3, a4⟩ := hat wr HB.out k hlt
      have HFT := Lib.hid (fit_take (l := l) (sn := wx) (ob := wy) (li := wz) (se := se) (k := k) (by rw [HN.out]; exact hlt))
      obtain ⟨q, hq⟩ : ∃ q, sAt l k = q := ⟨_, rfl⟩
      rw [hq] at a0 a1 a2 a3 a4 HFT
      obtain ⟨x, y, z, s, d⟩ := q
      dsimp only at a0 a1 a2 a3 a4
      have i0' : (0 : Int) ≤ (k : Int) := by omega
      have i1' : (k : Int) < (n : Int) := by omega
      obtain ⟨g, hg⟩ : ∃ g, wr.heap.size = g := ⟨_, rfl⟩
      obtain ⟨W, hW⟩ : ∃ z0, wr.alloc (sO x y z s d) = z0 := ⟨_, rfl⟩
      have hal : Below wr.heap.size wr W := by rw [← hW]; exact (Below.refl _ wr).alloc (Nat.le_refl _) _
      have HG : Hid (W.heap[g]? = some (sO x y z s d)) := by rw [← hW, ← hg]; exact World.alloc_heap_new wr _
      have HBW : Hid (Below w.heap.size w W) := HB.out.trans (hal.mono HB.out.size)
      have HOW : Hid (OwnS W (w.heap.size + 1) (.slice po m co) (fitL (l.take k) wx wy wz se)) := HO.out.after hal
      have HXW : Hid (Boxes w.heap.size [sO 0 0 0 0 0] W) := HX.out.below hal HX.out.lt
      have c0 := known_cell HG.out 0 (v := .int .i64 x) rfl
      have c1 := known_cell HG.out 1 (v := .int .i64 y) rfl
      have c2 := known_cell HG.out 2 (v := .int .i64 z) rfl
      have c3 := known_cell HG.out 3 (v := .int .i64 s) rfl
      have c4 := known_cell HG.out 4 (v := .int .i64 d) rfl
      have HC := Lib.hid (H1.out ⟨x, y, z, s, d⟩ W HBW.out)
      clear hq hat hal
      go_wp2_with fail
      clear hW hg a0 a1 a2 a3 a4
      refine HC.out.mono ?_
      rintro e V ⟨rfl, hbv⟩
      have HBV : Hid (Below w.heap.size w V) := HBW.out.trans (hbv.mono HBW.out.size)
      have HOV : Hid (OwnS V (w.heap.size + 1) (.slice po m co) (fitL (l.take k) wx wy wz se)) := HOW.out.after hbv
      have HXV : Hid (Boxes w.heap.size [sO 0 0 0 0 0] V) := HXW.out.below hbv HXW.out.lt
      have HGV := Lib.hid ((hbv.block g (Array.getElem?_eq_some_iff.1 HG.out).1).trans HG.out)
      obtain ⟨r, hr⟩ : ∃ r, fitB wx wy wz se ⟨x, y, z, s, d⟩ = r := ⟨_, rfl⟩
      rw [hr] at HFT ⊢
      clear hbv c0 c1 c2 c3 c4 HC hr
      cases r
      · have HO2 : Hid (OwnS V (w.heap.size + 1) (.slice po m co) (fitL (l.take (k + 1)) wx wy wz se)) := by
          have := HFT.out
          rw [if_neg (by decide), List.append_nil] at this
          rw [this]
          exact HOV.out
        go_wp2
        go_roundw
        case rel => exact ⟨k + 1, by go_num, by omega, HO2, HXV, HBV⟩
        case measure => simp [intOf]; omega
      · have c0 := known_cell HGV.out 0 (v := .int .i64 x) rfl
        have c1 := known_cell HGV.out 1 (v := .int .i64 y) rfl
        have c2 := known_cell HGV.out 2 (v := .int .i64 z) rfl
        have c3 := known_cell HGV.out 3 (v := .int .i64 s) rfl
        have c4 := known_cell HGV.out 4 (v := .int .i64 d) rfl
        obtain ⟨fl, hfl⟩ : ∃ fl, fitL (l.take k) wx wy wz se = fl := ⟨_, rfl⟩
        rw [hfl] at HOV HM HFT
        have hlen : fl.length ≤ 256 := by
          rw [← hfl]
          have := List.length_filter_le (fitB wx wy wz se) (l.take k)
          rw [List.length_take] at this
          show (List.filter _ _).length ≤ 256
          omega
        have hownA : (V.alloc (sO x y z s d)).ownsRow (w.heap.size + 1) 30 5 (.slice po m co) fl.length (scells fl) := World.ownsRow.alloc HOV.out _
        have hm1 : fl.length + 1 ≤ maxLen := by unfold maxLen; omega
        have hm2 : (fl.length + 1) * 40 ≤ 140737488355328 := by omega
        have hm3 : w.heap.size + 1 ≤ (V.alloc (sO x y z s d)).heap.size := by have := HXV.out.lt; simp at this ⊢; omega
        have hnews : ∀ (j : Nat) (u : Value), ([.int .i64 x, .int .i64 y, .int .i64 z, .int .i64 s, .int .i64 d] : List Value)[j]? = some u → (V.alloc (sO x y z s d)).cell? ((⟨V.heap.size, 0, none⟩ : Addr).add j) = some u := World.news_of_block (World.alloc_heap_new V _)
        clear hfl
        go_wp2_with (at_builtin; go_loud (refine wpList_append_own _ rfl (.tmp 21) (.tmp 23) 22 rfl (w.heap.size + 1) 30 i0 (.agg #[.int .i64 0, .int .i64 0, .int .i64 0, .int .i64 0, .int .i64 0]) 5 40 Tryz.underlying22 hi hz0 hz1 hz2 rfl (by decide) _ fl.length (scells fl) rfl hownA ⟨V.heap.size, 0, none⟩ 1 1 [.int .i64 x, .int .i64 y, .int .i64 z, .int .i64 s, .int .i64 d] rfl rfl hnews (by simp [Value.oneCell']) hm1 hm2 hm3 ?_); intro v' w7 hown7 hgrow7 _)
        have hlts := (HXV.out.alloc (sO x y z s d)).lt
        have HB7 : Hid (Below w.heap.size w w7) := (HBV.out.alloc HBV.out.size _).grown hgrow7 (Nat.le_trans (Nat.le_succ _) hm3) (fun z hz => by have := (World.ownsRow.lt hownA z hz).1; omega)
        have HX7 : Hid (Boxes w.heap.size [sO 0 0 0 0 0] w7) := by
          refine ⟨Nat.le_trans hlts hgrow7.size, fun i o ho => ?_⟩
          match i, ho with
          | 0, ho =>
            cases ho
            have h0 := (HXV.out.alloc (sO x y z s d)).block 0 (b := w.heap.size) rfl rfl
            refine (hgrow7.block w.heap.size (Array.getElem?_eq_some_iff.1 h0).1 (fun hc => ?_)).trans h0
            have := (World.ownsRow.lt hownA _ hc.symm).1
            omega
        have HO7 : Hid (OwnS w7 (w.heap.size + 1) v' (fitL (l.take (k + 1)) wx wy wz se)) := by
          have := HFT.out
          rw [if_pos trivial] at this
          rw [this]
          exact OwnS.snoc (a := ⟨x, y, z, s, d⟩) hown7
        clear hown7 hgrow7 hownA hnews hm1 hm2 hm3 hlen hlts c0 c1 c2 c3 c4
        go_roundw
        case rel => exact ⟨k + 1, by go_num, by omega, HO7, HX7, HB7⟩
        case measure => simp [intOf]; omega
    · obtain rfl : k = n := by omega
      have hall : l.take k = l := by rw [← HN.out, List.take_length]
      rw [hall] at HO HM
      have hlt' : ¬ (k : Int) < (k : Int) := by omega
      have f0 := HX.out.free 0 0 (b := w.heap.size) rfl rfl
      have f1 := HX.out.free 0 1 (b := w.heap.size) rfl rfl
      have f2 := HX.out.free 0 2 (b := w.heap.size) rfl rfl
      have f3 := HX.out.free 0 3 (b := w.heap.size) rfl rfl
      have f4 := HX.out.free 0 4 (b := w.heap.size) rfl rfl
      have b0 := HX.out.cell 0 0 (b := w.heap.size) rfl rfl rfl
      have b1 := HX.out.cell 0 1 (b := w.heap.size) rfl rfl rfl
      have b2 := HX.out.cell 0 2 (b := w.heap.size) rfl rfl rfl
      have b3 := HX.out.cell 0 3 (b := w.heap.size) rfl rfl rfl
      have b4 := HX.out.cell 0 4 (b := w.heap.size) rfl rfl rfl
      by_cases hm0 : m = 0
      · subst hm0
        have HNIL : Hid (fitL l wx wy wz se = []) := List.eq_nil_of_length_eq_zero HM.out
        have HX2 := Lib.hid (HX.out.alloc (sO 0 0 0 0 0))
        have HB2 : Hid (Below w.heap.size w (wr.alloc (sO 0 0 0 0 0))) := HB.out.alloc HB.out.size _
        obtain ⟨V, hV⟩ : ∃ z, wr.alloc (sO 0 0 0 0 0) = z := ⟨_, rfl⟩
        obtain ⟨g, hg⟩ : ∃ z, wr.heap.size = z := ⟨_, rfl⟩
        have hgV : V.heap[g]? = some (sO 0 0 0 0 0) := by rw [← hV, ← hg]; exact World.alloc_heap_new wr _
        rw [hV] at HX2 HB2
        have c0 := known_cell hgV 0 rfl
        have c1 := known_cell hgV 1 rfl
        have c2 := known_cell hgV 2 rfl
        have c3 := known_cell hgV 3 rfl
        have c4 := known_cell hgV 4 rfl
        have f0 := HX2.out.free 0 0 (b := w.heap.size) rfl rfl
        have f1 := HX2.out.free 0 1 (b := w.heap.size) rfl rfl
        have f2 := HX2.out.free 0 2 (b := w.heap.size) rfl rfl
        have f3 := HX2.out.free 0 3 (b := w.heap.size) rfl rfl
        have f4 := HX2.out.free 0 4 (b := w.heap.size) rfl rfl
        have b0 := HX2.out.cell 0 0 (b := w.heap.size) rfl rfl rfl
        have b1 := HX2.out.cell 0 1 (b := w.heap.size) rfl rfl rfl
        have b2 := HX2.out.cell 0 2 (b := w.heap.size) rfl rfl rfl
        have b3 := HX2.out.cell 0 3 (b := w.heap.size) rfl rfl rfl
        have b4 := HX2.out.cell 0 4 (b := w.heap.size) rfl rfl rfl
        go_wp2
        obtain ⟨p1, p2, p3⟩ := five_put (HX2.out.block 0 (b := w.heap.size) rfl rfl) 0 0 0 0 0
        have q0 := known_cell p1 0 rfl
        have q1 := known_cell p1 1 rfl
        have q2 := known_cell p1 2 rfl
        have q3 := known_cell p1 3 rfl
        have q4 := known_cell p1 4 rfl
        exact bodyPost_ret (v := .tuple #[sV noSg, .bool false]) (by simp [results, Tryz.f44, go_sem, q0, q1, q2, q3, q4, noSg]) rfl ⟨.inl ⟨HNIL.out, rfl⟩, p3 _ _ HB2.out (Nat.le_refl _)⟩
      · have hm0' : ((m : Int) == 0) = false := by rw [beq_eq_false_iff_ne]; omega
        have HMIN : Hid (Calls Tryz.prog 96 #[.slice po m co, .func (.func 47) #[] #[]] wr (MinPost (fitL l wx wy wz se) wr)) := by
          have hin : ∀ a ∈ fitL l wx wy wz se, inSg a := fun a ha => by
            obtain ⟨i, hi, rfl, _⟩ := fitL_mem ha
            exact (HL.out.2 i hi).1
          have hlen : (fitL l wx wy wz se).length ≤ 256 := by
            have := List.length_filter_le (fitB wx wy wz se) l
            rw [HN.out] at this
            show (List.filter _ _).length ≤ 256
            omega
          exact min_any (enters_of Tryz.func47 (by kernel_rfl) rfl) HO.out.sl (by rw [HM.out]; omega) (by omega) (fun a ha b hb W _ => width2_any a b (hin a ha) (hin b hb) W)
        go_wp2_with fail
        refine HMIN.out.mono ?_
        rintro e V ⟨q, rfl, hq1, hq2, hb⟩
        have HQ : Hid (q ∈ fitL l wx wy wz se ∧ ∀ x ∈ fitL l wx wy wz se, q.se ≤ x.se) := ⟨hq1, hq2⟩
        have HX2 := Lib.hid (HX.out.below hb HX.out.lt)
        have HB2 := Lib.hid (HB.out.trans (hb.mono HB.out.size))
        obtain ⟨mx, my, mz, ms, md⟩ := q
        clear hb hq1 hq2 HMIN f0 f1 f2 f3 f4 b0 b1 b2 b3 b4
        have f0 := HX2.out.free 0 0 (b := w.heap.size) rfl rfl
        have f1 := HX2.out.free 0 1 (b := w.heap.size) rfl rfl
        have f2 := HX2.out.free 0 2 (b := w.heap.size) rfl rfl
        have f3 := HX2.out.free 0 3 (b := w.heap.size) rfl rfl
        have f4 := HX2.out.free 0 4 (b := w.heap.size) rfl rfl
        have b0 := HX2.out.cell 0 0 (b := w.heap.size) rfl rfl rfl
        have b1 := HX2.out.cell 0 1 (b := w.heap.size) rfl rfl rfl
        have b2 := HX2.out.cell 0 2 (b := w.heap.size) rfl rfl rfl
        have b3 := HX2.out.cell 0 3 (b := w.heap.size) rfl rfl rfl
        have b4 := HX2.out.cell 0 4 (b := w.heap.size) rfl rfl rfl
        go_wp2
        obtain ⟨p1, p2, p3⟩ := five_put (HX2.out.block 0 (b := w.heap.size) rfl rfl) mx my mz ms md
        have q0 := known_cell p1 0 rfl
        have q1 := known_cell p1 1 rfl
        have q2 := known_cell p1 2 rfl
        have q3 := known_cell p1 3 rfl
        have q4 := known_cell p1 4 rfl
        exact bodyPost_ret (v := .tuple #[sV ⟨mx, my, mz, ms, md⟩, .bool true]) (by simp [results, Tryz.f44, go_sem, q0, q1, q2, q3, q4]) rfl ⟨.inr ⟨⟨mx, my, mz, ms, md⟩, rfl, HQ.out.1, HQ.out.2⟩, p3 _ _ HB2.out (Nat.le_refl _)⟩
/-- What Width answers. -/
def WidthPost (l : List Sg) (sn ob li se : Int) (w : World) (e : Ending) (w' : World) : Prop := ∃ a n, e = .returned (.tuple #[.int .i64 a, .int .i64 n]) ∧ WidthA l sn ob li se a n ∧ Below w.heap.size w w'
set_option maxRecDepth 100000 in
set_option maxHeartbeats 4000000 in
theorem dWidth_any {v : Value} {l : List Sg} {w : World} (hv : SL w v l) (sn ob li se : Int) :
    Calls Tryz.prog 15 #[v, .int .i64 sn, .int .i64 ob, .int .i64 li, .int .i64 se] w (WidthPost l sn ob li se w) := by
  obtain ⟨n, hn⟩ : ∃ n, l.length = n := ⟨_, rfl⟩
  obtain ⟨p, c, rfl⟩ : ∃ p c, v = .slice p n c := by obtain ⟨p, c, h, _⟩ := id hv; exact ⟨_, _, by rw [← hn]; exact h⟩
  have hb0 : Below w.heap.size w (w.alloc (iO se)) := (Below.refl _ w).alloc (Nat.le_refl _) _
  have HB0 := Lib.hid hb0
  have HI : Hid ((w.alloc (iO se)).heap[w.heap.size]? = some (iO se)) := World.alloc_heap_new w _
  have HC := Lib.hid (checkTable_any (hv.after hb0 (Nat.le_refl _)))
  have HV := Lib.hid hv
  clear hv hn hb0
  go_enter Tryz.func15, Tryz.ntmps15
  go_wp2_with fail
  refine HC.out.mono ?_
  rintro e w2 ⟨r, rfl, hE, hb⟩
  have HB2 := Lib.hid (HB0.out.trans (hb.mono HB0.out.size))
  have HI2 := Lib.hid ((hb.block _ (Array.getElem?_eq_some_iff.1 HI.out).1).trans HI.out)
  clear hb HC
  rcases hE with ⟨ht, rfl⟩ | ⟨ht, rfl⟩
  · have HTB := Lib.hid ht
    clear ht
    obtain ⟨g, hg⟩ : ∃ g, w2.heap.size = g := ⟨_, rfl⟩
    obtain ⟨w3, hw3⟩ : ∃ z, w2.alloc (kO sn ob li) = z := ⟨_, rfl⟩
    have hal : Below w2.heap.size w2 w3 := by rw [← hw3]; exact (Below.refl _ w2).alloc (Nat.le_refl _) _
    have HK3 : Hid (w3.heap[g]? = some (kO sn ob li)) := by rw [← hw3, ← hg]; exact World.alloc_heap_new w2 _
    have HI3 : Hid (w3.heap[w.heap.size]? = some (iO se)) := (hal.block _ (Array.getElem?_eq_some_iff.1 HI2.out).1).trans HI2.out
    have HB3 : Hid (Below w.heap.size w w3) := HB2.out.trans (hal.mono HB2.out.size)
    have HL := Lib.hid (least_any g w.heap.size (HV.out.after HB3.out (Nat.le_refl _)) HTB.out HK3.out HI3.out)
    clear hal
    go_wp2_with fail
    refine HL.out.mono ?_
    rintro e w4 ⟨hE, hb⟩
    have HB4 := Lib.hid (HB3.out.trans (hb.mono HB3.out.size))
    clear hb HL hw3 hg
    rcases hE with ⟨hnil, rfl⟩ | ⟨m, rfl, hm1, hm2⟩
    · have HA : Hid (WidthA l sn ob li se 0 7) := width_none HTB.out hnil
      have HB5 := Lib.hid (HB4.out.alloc HB4.out.size (sO 0 0 0 0 0))
      unfold noSg
      clear hnil
      go_wp2
      exact bodyPost_ret (v := .tuple #[.int .i64 0, .int .i64 7]) (by simp [results, Tryz.f15, go_sem]) rfl ⟨0, 7, rfl, HA.out, HB5.out⟩
    · have HA : Hid (WidthA l sn ob li se m.wi 0) := width_least HTB.out hm1 hm2
      have HB5 := Lib.hid (HB4.out.alloc HB4.out.size (sOf m))
      obtain ⟨mx, my, mz, ms, md⟩ := m
      clear hm1 hm2
      go_wp2
      exact bodyPost_ret (v := .tuple #[.int .i64 md, .int .i64 0]) (by simp [results, Tryz.f15, go_sem]) rfl ⟨md, 0, rfl, HA.out, HB5.out⟩
  · have HA : Hid (WidthA l sn ob li se 0 2) := width_arg ht
    clear ht
    go_wp2
    exact bodyPost_ret (v := .tuple #[.int .i64 0, .int .i64 2]) (by simp [results, Tryz.f15, go_sem]) rfl ⟨0, 2, rfl, HA.out, HB2.out⟩
end Go.Proofs.YtcncdepjbhnknaaGreatDoor
/- The curve that halves (plain). -/
namespace Go.Proofs.YtcncdepjbhnknaaGreatDoor
open Go.RowKit Go.Shelf

def isPB (q : Rat) (s t : ByteArray) : Bool := decide (0 ≤ q) && decide (s = str (numD q)) && decide (t = str (denD q)) && decide (Fits q)
theorem isP_dec {q : Rat} {s t : ByteArray} (h : isPB q s t = true) : IsP q s t := by
  unfold isPB at h
  simp only [Bool.and_eq_true, decide_eq_true_eq] at h
  exact ⟨h.1.1.1, h.1.1.2, h.1.2, h.2⟩
/-- The k-th bend. -/
def halvB (k : Nat) : BB := ((str (Lib.decDigits k), ⟨#[49]⟩), (str (Lib.decDigits (2 ^ k - 1)), str (Lib.decDigits (2 ^ k))))
def halvL (n : Nat) : List BB := (List.range (n + 1)).map halvB
theorem halvL_len (n : Nat) : (halvL n).length = n + 1 := by simp [halvL]
theorem halvL_at {n i : Nat} (h : i < n + 1) : bAt (halvL n) i = halvB i := by
  unfold bAt halvL
  simp [List.getD, h]
theorem halvL_snoc (n : Nat) : halvL (n + 1) = halvL n ++ [halvB (n + 1)] := by
  unfold halvL
  rw [List.range_succ, List.map_append]
  rfl
theorem halv_all : ∀ k, k < 41 → (isPB (mkRat (k : Nat) 1) (halvB k).1.1 (halvB k).1.2 && isPB (mkRat ((2 ^ k - 1 : Nat) : Int) (2 ^ k)) (halvB k).2.1 (halvB k).2.2) = true := by decide +kernel
theorem halv_isP {k : Nat} (hk : k < 41) : IsP (mkRat (k : Nat) 1) (halvB k).1.1 (halvB k).1.2 ∧ IsP (mkRat ((2 ^ k - 1 : Nat) : Int) (2 ^ k)) (halvB k).2.1 (halvB k).2.2 := by
  have h := halv_all k hk
  rw [Bool.and_eq_true] at h
  exact ⟨isP_dec h.1, isP_dec h.2⟩
theorem halvB_zero : halvB 0 = zeroB := by decide +kernel
/-- The chapter's curve of two coverages is valid. -/
def slpL (bs : List BB) (i : Nat) : Rat := (hR bs (i + 1) - hR bs i) / (cR bs (i + 1) - cR bs i)
theorem halv2_curve : CurveP (halvL 2) where
  len := by decide +kernel
  first := by decide +kernel
  small := fun i h => by
    have h2 : i < 3 := by rw [halvL_len] at h; exact h
    match i, h2 with
    | 0, _ => decide +kernel
    | 1, _ => decide +kernel
    | 2, _ => decide +kernel
  top := fun i h => by
    have h2 : i < 3 := by rw [halvL_len] at h; exact h
    match i, h2 with
    | 0, _ => decide +kernel
    | 1, _ => decide +kernel
    | 2, _ => decide +kernel
  up := fun i h => by
    have h2 : i + 1 < 3 := by rw [halvL_len] at h; exact h
    match i, h2 with
    | 0, _ => decide +kernel
    | 1, _ => decide +kernel
  conc := fun i h => by
    have h2 : i + 2 < 3 := by rw [halvL_len] at h; exact h
    obtain rfl : i = 0 := by omega
    unfold slp
    decide +kernel
end Go.Proofs.YtcncdepjbhnknaaGreatDoor
/- weight's sum, share. -/
namespace Go.Proofs.YtcncdepjbhnknaaGreatDoor
open Go.RowKit Go.Shelf



theorem isP_int {n : Nat} {x : List UInt8} (h : Lib.decDigits n = x) (hx : x.length ≤ 600) : IsP (n : Nat) (str x) (str [49]) := by
  have h1 : numD ((n : Nat) : Rat) = x := by unfold numD; rw [Rat.num_natCast, Int.toNat_natCast, h]
  have h2 : denD ((n : Nat) : Rat) = [49] := by unfold denD; rw [Rat.den_natCast, decDigits_one']
  exact ⟨Rat.natCast_nonneg, by rw [h1], by rw [h2], by unfold Fits; rw [h1, h2]; exact ⟨hx, by decide⟩⟩
theorem isP_zero : IsP 0 (⟨#[48]⟩ : ByteArray) (⟨#[49]⟩ : ByteArray) := by have := isP_int (n := 0) decDigits_zero (by decide); exact this
theorem isP_one : IsP 1 (⟨#[49]⟩ : ByteArray) (⟨#[49]⟩ : ByteArray) := by have := isP_int (n := 1) decDigits_one' (by decide); exact this

/-- A fraction's numerator says "0" just where it is 0. -/
theorem IsP.num_zero {q : Rat} {s t : ByteArray} (h : IsP q s t) : (s.toList == [48]) = true ↔ q = 0 := by
  have e : s.toList = s.data.toList := ByteArray.toList_eq ..
  rw [e, beq_iff_eq]
  constructor
  · intro h1
    refine h.inj isP_zero ?_ ?_ |>.trans rfl
    · rw [← str_eq s, h1]; rfl
    · have h2 : q.num.toNat = 0 := by rw [← h.vals.1, h1]; rfl
      have h3 := num_toNat h.nn
      rw [h2] at h3
      have h4 := Rat.num_eq_zero.1 h3.symm
      subst h4
      exact (h.same isP_zero rfl).2
  · rintro rfl
    rw [(h.same isP_zero rfl).1]
theorem IsP.pos {q : Rat} {s t : ByteArray} (h : IsP q s t) (h0 : q ≠ 0) : 0 < q := Rat.lt_of_le_of_ne h.nn (Ne.symm h0)

theorem Own.mono {w : World} {b c : Nat} {v : Value} {ps : List PP} (h : Own w c v ps) (hb : b ≤ c) : Own w b v ps := by
  obtain ⟨h1, h2⟩ := h
  refine ⟨h1, ?_⟩
  rcases h2 with h2 | ⟨g, cap, cur, hv, hb', hr⟩
  · exact .inl h2
  · exact .inr ⟨g, cap, cur, hv, by omega, hr⟩

end Go.Proofs.YtcncdepjbhnknaaGreatDoor
