/- The parts DMiss2, Env, Copy, Copy2 of a proof, put together by program (merge6.py). -/
import Derived.Test.YtcncdepjbhnknaaGreatDoorJ06
import Derived.Test.YtcncdepjbhnknaaGreatDoorH07
import Derived.Test.YtcncdepjbhnknaaGreatDoorH11
import Derived.Test.YtcncdepjbhnknaaGreatDoorJ01
import Derived.Deep.Slices
set_option linter.unusedVariables false
set_option linter.unusedSimpArgs false
/- detect's Miss: the call. -/
namespace Go.Proofs.YtcncdepjbhnknaaGreatDoor
open Go.RowKit Go.Shelf
attribute [local go_sem ↓] Go.wp_at_zero Go.wp_at_succ

set_option maxRecDepth 100000 in
set_option maxHeartbeats 4000000 in
theorem dMiss_any {v v2 : Value} {bs : List BB} {ps : List PP} {w : World} (hv : BL w v bs) (hz : LimB bs) (hv2 : PL w v2 ps) (hz2 : LimP ps) (hD : DetV w) (hT : Tabs w) :
    Calls Tryz.prog 42 #[v, v2] w (PartPost (MissP bs ps) w) := by
  obtain ⟨n1, hn1⟩ : ∃ n, bs.length = n := ⟨_, rfl⟩
  obtain ⟨p1, c1, rfl⟩ : ∃ p c, v = .slice p n1 c := by obtain ⟨p, c, h, _⟩ := id hv; exact ⟨_, _, by rw [← hn1]; exact h⟩
  obtain ⟨m, hm⟩ : ∃ n, ps.length = n := ⟨_, rfl⟩
  obtain ⟨p2, c2, rfl⟩ : ∃ p c, v2 = .slice p m c := by obtain ⟨p, c, h, _⟩ := id hv2; exact ⟨_, _, by rw [← hm]; exact h⟩
  clear hn1
  have hm9 : m ≤ 9223372036854775807 := by
    obtain ⟨p', c', hs, h1, h2, _⟩ := id hv2
    unfold maxLen at h2
    omega
  obtain ⟨w3, hw3⟩ : ∃ z, ((w.alloc (.cells #[.slice p1 n1 c1] 34)).alloc (.cells #[.slice p2 m c2] 67)).alloc (pObj ⟨#[]⟩ ⟨#[]⟩) = z := ⟨_, rfl⟩
  have hs3 : w3.heap.size = w.heap.size + 3 := by rw [← hw3]; simp
  have HX : Hid (Boxes w.heap.size [.cells #[.slice p1 n1 c1] 34, .cells #[.slice p2 m c2] 67, pObj ⟨#[]⟩ ⟨#[]⟩] w3) := by rw [← hw3]; exact Boxes.three w _ _ _
  have HB3 : Hid (Below w.heap.size w w3) := by rw [← hw3]; exact (((Below.refl _ w).alloc (Nat.le_refl _) _).alloc (by simp) _).alloc (by simp <;> omega) _
  have l0 : w3.cell? ⟨w.heap.size, 0, none⟩ = some (.slice p1 n1 c1) := HX.out.cell 0 0 rfl rfl rfl
  have d0 : w3.cell? ⟨w.heap.size + 1, 0, none⟩ = some (.slice p2 m c2) := HX.out.cell 1 0 rfl rfl rfl
  have HM := Lib.hid hm
  by_cases hlen : m ≤ 512
  · have hno : ¬ (512 : Int) < (m : Int) := by omega
    have HV := Lib.hid hv
    have HV2 := Lib.hid hv2
    have HT := Lib.hid hT
    have HD := Lib.hid hD
    have HR := Lib.hid (dright_any (hv.after HB3.out (Nat.le_refl _)) hz (hv2.after HB3.out (Nat.le_refl _)) hz2 (hD.below HB3.out (Nat.le_refl _)) (hT.below HB3.out (Nat.le_refl _)))
    have HLE : Hid (ps.length ≤ 512) := by show _ ≤ _; omega
    clear hv hv2 hz hz2 hD hT hm hlen
    go_enter Tryz.func42, Tryz.ntmps42
    go_wp2_with fail
    refine HR.out.mono ?_
    rintro e w5 ⟨hE, hb⟩
    have HX5 := Lib.hid (HX.out.below hb HX.out.lt)
    have HB5 := Lib.hid (HB3.out.trans (hb.mono HB3.out.size))
    clear l0 d0 hb HR HX HB3 hs3 hw3
    skip
    have c0 : w5.cell? ⟨w.heap.size + 1 + 1, 0, none⟩ = some (.string ⟨#[]⟩) := HX5.out.cell 2 0 rfl rfl rfl
    have c1 : w5.cell? ⟨w.heap.size + 1 + 1, 1, none⟩ = some (.string ⟨#[]⟩) := HX5.out.cell 2 1 rfl rfl rfl
    have f0 : w5.frozen? ⟨w.heap.size + 1 + 1, 0, none⟩ = false := HX5.out.free 2 0 rfl rfl
    have f1 : w5.frozen? ⟨w.heap.size + 1 + 1, 1, none⟩ = false := HX5.out.free 2 1 rfl rfl
    have hl5 := HX5.out.lt
    rcases hE with ⟨hr, rfl⟩ | ⟨hr, rfl⟩
    · have HOK : Hid (MissOk bs ps) := ⟨hr, HLE.out⟩
      have HTR : Hid (Calls Tryz.prog 68 #[.func (.func 92) #[] #[.pointer (some ⟨w.heap.size + 1, 0, none⟩), .pointer (some ⟨w.heap.size, 0, none⟩)]] w5 (PartPost (MissD bs ps) w5)) :=
        dtried_any (enters_of Tryz.func92 (by kernel_rfl) rfl) fun W hW => by
          have hx := HX5.out.below hW hl5
          have hbw := HB5.out.trans (hW.mono HB5.out.size)
          exact miss1_any (w.heap.size + 1) w.heap.size (hx.block 1 rfl rfl) (hx.block 0 rfl rfl) (HV.out.after hbw (Nat.le_refl _)) (HV2.out.after hbw (Nat.le_refl _)) HM.out HOK.out (HD.out.below hbw (Nat.le_refl _)) (HT.out.below hbw (Nat.le_refl _))
      clear hr HV HV2 HT HD
      go_wp2_with fail
      refine HTR.out.mono ?_
      rintro e w7 ⟨x, y, n, rfl, hA, hb⟩
      have HA : Hid (MissP bs ps x y n) := .inr ⟨HOK.out, hA⟩
      have HX7 := Lib.hid (HX5.out.below hb hl5)
      have HB7 := Lib.hid (HB5.out.trans (hb.mono HB5.out.size))
      clear c0 c1 f0 f1 hb hA hl5 HTR HX5 HB5
      skip
      have c0 : w7.cell? ⟨w.heap.size + 1 + 1, 0, none⟩ = some (.string ⟨#[]⟩) := HX7.out.cell 2 0 rfl rfl rfl
      have c1 : w7.cell? ⟨w.heap.size + 1 + 1, 1, none⟩ = some (.string ⟨#[]⟩) := HX7.out.cell 2 1 rfl rfl rfl
      have f0 : w7.frozen? ⟨w.heap.size + 1 + 1, 0, none⟩ = false := HX7.out.free 2 0 rfl rfl
      have f1 : w7.frozen? ⟨w.heap.size + 1 + 1, 1, none⟩ = false := HX7.out.free 2 1 rfl rfl
      go_wp2
      skip
      obtain ⟨q0, q1⟩ := two_put_cells (HX7.out.block 2 (b := w.heap.size + 1 + 1) rfl rfl) (.string x) (.string y)
      exact bodyPost_ret (v := .tuple #[.agg #[.string x, .string y], .int .i64 n]) (by simp [results, Tryz.f42, go_sem, q0, q1]) rfl ⟨x, y, n, rfl, HA.out, two_put_below HB7.out (by show _ ≤ _; omega) (.string x) (.string y)⟩
    · have HA : Hid (MissP bs ps ⟨#[]⟩ ⟨#[]⟩ 2) := .inl ⟨fun h => hr h.1, rfl, rfl, rfl⟩
      clear hr HV HV2 HT HD hl5
      go_wp2
      skip
      obtain ⟨q0, q1⟩ := two_put_cells (HX5.out.block 2 (b := w.heap.size + 1 + 1) rfl rfl) (.string ⟨#[]⟩) (.string ⟨#[]⟩)
      exact bodyPost_ret (v := .tuple #[.agg #[.string ⟨#[]⟩, .string ⟨#[]⟩], .int .i64 2]) (by simp [results, Tryz.f42, go_sem, q0, q1]) rfl ⟨⟨#[]⟩, ⟨#[]⟩, 2, rfl, HA.out, two_put_below HB5.out (by show _ ≤ _; omega) (.string ⟨#[]⟩) (.string ⟨#[]⟩)⟩
  · have hno : (512 : Int) < (m : Int) := by omega
    have HA : Hid (MissP bs ps ⟨#[]⟩ ⟨#[]⟩ 2) := .inl ⟨fun h => hlen (by have := h.2; omega), rfl, rfl, rfl⟩
    skip
    have c0 : w3.cell? ⟨w.heap.size + 1 + 1, 0, none⟩ = some (.string ⟨#[]⟩) := HX.out.cell 2 0 rfl rfl rfl
    have c1 : w3.cell? ⟨w.heap.size + 1 + 1, 1, none⟩ = some (.string ⟨#[]⟩) := HX.out.cell 2 1 rfl rfl rfl
    have f0 : w3.frozen? ⟨w.heap.size + 1 + 1, 0, none⟩ = false := HX.out.free 2 0 rfl rfl
    have f1 : w3.frozen? ⟨w.heap.size + 1 + 1, 1, none⟩ = false := HX.out.free 2 1 rfl rfl
    have HX' := HX
    have HB' := HB3
    clear hv hv2 hz hz2 hD hT hm hlen
    rw [← hw3] at l0 d0 c0 c1 f0 f1 HX' HB'
    clear hw3 HX HB3
    go_enter Tryz.func42, Tryz.ntmps42
    go_wp2
    skip
    obtain ⟨q0, q1⟩ := two_put_cells (HX'.out.block 2 (b := w.heap.size + 1 + 1) rfl rfl) (.string ⟨#[]⟩) (.string ⟨#[]⟩)
    refine bodyPost_ret (v := .tuple #[.agg #[.string ⟨#[]⟩, .string ⟨#[]⟩], .int .i64 2]) (by simp [results, Tryz.f42, go_sem, q0, q1]) rfl ⟨⟨#[]⟩, ⟨#[]⟩, 2, rfl, HA.out, ?_⟩
    exact HB'.out
end Go.Proofs.YtcncdepjbhnknaaGreatDoor
/- What a call knows of the world: nothing below its first block has turned; its own blocks and what they hold; beside them facts, each with the blocks that it hangs on. One fact for a whole walk. -/
namespace Go.Proofs.YtcncdepjbhnknaaGreatDoor
open Go.RowKit

/-- A fact of the world, and the blocks that it hangs on. -/
structure SP where
  P : World → Prop
  fp : Nat → Prop
  st : ∀ {w w' : World}, P w → Keeps fp w w' → P w'
structure Env (B : Nat) (w0 : World) (bs : List (Nat × Obj)) (ps : List SP) (w : World) : Prop where
  base : Below B w0 w
  own : B ≤ w.heap.size
  cells : ∀ (i : Nat) (p : Nat × Obj), bs[i]? = some p → B ≤ p.1 ∧ w.heap[p.1]? = some p.2
  apart : ∀ (i j : Nat) (p q : Nat × Obj), bs[i]? = some p → bs[j]? = some q → p.1 = q.1 → i = j
  props : ∀ (i : Nat) (q : SP), ps[i]? = some q → q.P w ∧ (∀ b, q.fp b → b < w.heap.size) ∧ (∀ (j : Nat) (p : Nat × Obj), bs[j]? = some p → ¬ q.fp p.1)

section
variable {B : Nat} {w0 w w' : World} {bs : List (Nat × Obj)} {ps : List SP}
theorem Env.start (w : World) : Env w.heap.size w [] [] w := ⟨Below.refl _ w, Nat.le_refl _, fun i p h => by simp at h, fun i j p q h => by simp at h, fun i q h => by simp at h⟩
theorem Env.after {C : Nat} (h : Env B w0 bs ps w) (hb : Below C w w') (hC : w.heap.size ≤ C) : Env B w0 bs ps w' where
  base := h.base.trans (hb.mono (Nat.le_trans h.own hC))
  own := Nat.le_trans h.own hb.size
  cells := fun i p hp => by
    obtain ⟨h1, h2⟩ := h.cells i p hp
    refine ⟨h1, ?_⟩
    rw [hb.block _ (Nat.lt_of_lt_of_le (Array.getElem?_eq_some_iff.1 h2).1 hC)]
    exact h2
  apart := h.apart
  props := fun i q hq => by
    obtain ⟨h1, h2, h3⟩ := h.props i q hq
    exact ⟨q.st h1 ⟨hb.os, hb.tape, hb.output, hb.size, fun k hk _ => hb.block k (by omega)⟩, fun b hb2 => Nat.lt_of_lt_of_le (h2 b hb2) hb.size, h3⟩
theorem Env.step (h : Env B w0 bs ps w) (hb : Below w.heap.size w w') : Env B w0 bs ps w' := h.after hb (Nat.le_refl _)
theorem Env.drew (h : Env B w0 bs ps w) : Env B w0 bs ps w.drew := h.step (Below.refl _ w).drew
theorem Env.push (h : Env B w0 bs ps w) (o : Obj) {g : Nat} (hg : g = w.heap.size) : Env B w0 ((g, o) :: bs) ps (w.alloc o) := by
  subst hg
  have hb : Below w.heap.size w (w.alloc o) := (Below.refl _ w).alloc (Nat.le_refl _) o
  have h' := h.step hb
  have hlt : ∀ (j : Nat) (p : Nat × Obj), bs[j]? = some p → p.1 < w.heap.size := fun j p hp => (Array.getElem?_eq_some_iff.1 (h.cells j p hp).2).1
  refine ⟨h'.base, h'.own, fun i p hp => ?_, fun i j p q hp hq e => ?_, fun i q hq => ?_⟩
  · cases i with
    | zero =>
      obtain rfl := Option.some.inj hp
      exact ⟨h.own, World.alloc_heap_new w o⟩
    | succ i => exact h'.cells i p (by simpa using hp)
  · cases i with
    | zero =>
      cases j with
      | zero => rfl
      | succ j =>
        obtain rfl := Option.some.inj hp
        have := hlt j q (by simpa using hq)
        simp only at e
        omega
    | succ i =>
      cases j with
      | zero =>
        obtain rfl := Option.some.inj hq
        have := hlt i p (by simpa using hp)
        simp only at e
        omega
      | succ j => rw [h.apart i j p q (by simpa using hp) (by simpa using hq) e]
  · obtain ⟨h1, h2, h3⟩ := h'.props i q hq
    refine ⟨h1, h2, fun j p hp hc => ?_⟩
    cases j with
    | zero =>
      obtain rfl := Option.some.inj hp
      have := (h.props i q hq).2.1 _ hc
      simp only at this
      omega
    | succ j => exact h3 j p (by simpa using hp) hc
theorem Env.block (h : Env B w0 bs ps w) (i : Nat) {g : Nat} {o : Obj} (hi : bs[i]? = some (g, o)) : w.heap[g]? = some o := (h.cells i _ hi).2
theorem Env.lt (h : Env B w0 bs ps w) (i : Nat) {g : Nat} {o : Obj} (hi : bs[i]? = some (g, o)) : g < w.heap.size := (Array.getElem?_eq_some_iff.1 (h.block i hi)).1
theorem Env.le (h : Env B w0 bs ps w) (i : Nat) {g : Nat} {o : Obj} (hi : bs[i]? = some (g, o)) : B ≤ g := (h.cells i _ hi).1
theorem Env.cell (h : Env B w0 bs ps w) (i j : Nat) {g : Nat} {cs : Array Value} {T : TypeId} {v : Value} (hi : bs[i]? = some (g, .cells cs T (0, 0))) (hv : cs[j]? = some v) : w.cell? ⟨g, j, none⟩ = some v := known_cell (h.block i hi) j hv
theorem Env.free (h : Env B w0 bs ps w) (i j : Nat) {g : Nat} {cs : Array Value} {T : TypeId} (hi : bs[i]? = some (g, .cells cs T (0, 0))) : w.frozen? ⟨g, j, none⟩ = false := known_frozen (h.block i hi) j
theorem Env.prop (h : Env B w0 bs ps w) (i : Nat) {q : SP} (hi : ps[i]? = some q) : q.P w := (h.props i q hi).1
/-- One of the call's own blocks is turned. -/
theorem Env.put (h : Env B w0 bs ps w) (i : Nat) {g : Nat} {o : Obj} (o' : Obj) (hi : bs[i]? = some (g, o)) (hw : w'.heap[g]? = some o') (hk : Keeps (fun b => b ≠ g) w w') : Env B w0 (bs.set i (g, o')) ps w' := by
  have hil : i < bs.length := (List.getElem?_eq_some_iff.1 hi).1
  have hget : ∀ (j : Nat) (p : Nat × Obj), (bs.set i (g, o'))[j]? = some p → (j = i ∧ p = (g, o')) ∨ (j ≠ i ∧ bs[j]? = some p) := fun j p hp => by
    by_cases e : j = i
    · subst e
      rw [List.getElem?_set_self hil] at hp
      exact .inl ⟨rfl, (Option.some.inj hp).symm⟩
    · rw [List.getElem?_set_ne (Ne.symm e)] at hp
      exact .inr ⟨e, hp⟩
  have hB : B ≤ g := h.le i hi
  refine ⟨h.base.trans ⟨hk.os, hk.tape, hk.output, hk.size, fun k hlt => hk.block k (by have := h.own; omega) (by omega)⟩, Nat.le_trans h.own hk.size, fun j p hp => ?_, fun j k p q hp hq e => ?_, fun j q hq => ?_⟩
  · rcases hget j p hp with ⟨rfl, rfl⟩ | ⟨hne, hp⟩
    · exact ⟨hB, hw⟩
    · obtain ⟨h1, h2⟩ := h.cells j p hp
      refine ⟨h1, ?_⟩
      rw [hk.block _ (Array.getElem?_eq_some_iff.1 h2).1 (fun e => hne (h.apart j i p _ hp hi e))]
      exact h2
  · rcases hget j p hp with ⟨e1, e2⟩ | ⟨hne, hp'⟩
    · rcases hget k q hq with ⟨e3, e4⟩ | ⟨hne2, hq'⟩
      · rw [e1, e3]
      · rw [e2] at e
        rw [e1]
        exact h.apart i k _ q hi hq' e
    · rcases hget k q hq with ⟨e3, e4⟩ | ⟨hne2, hq'⟩
      · rw [e4] at e
        rw [e3]
        exact h.apart j i p _ hp' hi e
      · exact h.apart j k p q hp' hq' e
  · obtain ⟨h1, h2, h3⟩ := h.props j q hq
    have hng : ¬ q.fp g := h3 i _ hi
    refine ⟨q.st h1 (hk.mono fun b _ hb e => hng (e ▸ hb)), fun b hb => Nat.lt_of_lt_of_le (h2 b hb) hk.size, fun k p hp hc => ?_⟩
    rcases hget k p hp with ⟨rfl, rfl⟩ | ⟨_, hp⟩
    · exact hng hc
    · exact h3 k p hp hc
/-- A store into a cell of an own block. -/
theorem Env.store (h : Env B w0 bs ps w) (i j : Nat) {g : Nat} {cs : Array Value} {T : TypeId} (v : Value) (hi : bs[i]? = some (g, .cells cs T (0, 0))) : Env B w0 (bs.set i (g, .cells (cs.set! j v) T (0, 0))) ps (w.setCell ⟨g, j, none⟩ v) :=
  h.put i (.cells (cs.set! j v) T (0, 0)) hi (Joins.block_setCell (h.block i hi) v) ((Keeps.refl _ w).setCell (by simp) v)
/-- One fact more: of blocks that are none of those that are listed. -/
theorem Env.know (h : Env B w0 bs ps w) (q : SP) (hq : q.P w) (hf : ∀ b, q.fp b → b < w.heap.size) (ha : ∀ (j : Nat) (p : Nat × Obj), bs[j]? = some p → ¬ q.fp p.1) : Env B w0 bs (q :: ps) w where
  base := h.base
  own := h.own
  cells := h.cells
  apart := h.apart
  props := fun i r hr => by
    cases i with
    | zero =>
      obtain rfl := Option.some.inj hr
      exact ⟨hq, hf, ha⟩
    | succ i => exact h.props i r (by simpa using hr)
/-- A fact of blocks that came behind a world in which all those that are listed were there. -/
theorem Env.learn (h : Env B w0 bs ps w) (hb : Below w.heap.size w w') (q : SP) (hq : q.P w') (hf : ∀ b, q.fp b → w.heap.size ≤ b ∧ b < w'.heap.size) : Env B w0 bs (q :: ps) w' :=
  (h.step hb).know q hq (fun b hb2 => (hf b hb2).2) fun j p hp hc => by
    have h1 := (hf _ hc).1
    have h2 := (Array.getElem?_eq_some_iff.1 (h.cells j p hp).2).1
    omega
theorem Env.tail {p : Nat × Obj} (h : Env B w0 (p :: bs) ps w) : Env B w0 bs ps w :=
  ⟨h.base, h.own, fun i q hq => h.cells (i + 1) q (by simpa using hq), fun i j p q hp hq e => by have := h.apart (i + 1) (j + 1) p q (by simpa using hp) (by simpa using hq) e; omega,
    fun i q hq => ⟨(h.props i q hq).1, (h.props i q hq).2.1, fun j p hp => (h.props i q hq).2.2 (j + 1) p (by simpa using hp)⟩⟩
/-- The first block, of two cells, is filled. -/
theorem Env.fill {g : Nat} {a b : Value} {T : TypeId} (h : Env B w0 ((g, .cells #[a, b] T (0, 0)) :: bs) ps w) (x y : Value) : Env B w0 ((g, .cells #[x, y] T (0, 0)) :: bs) ps ((w.setCell ⟨g, 0, none⟩ x).setCell ⟨g, 1, none⟩ y) :=
  h.put 0 (.cells #[x, y] T (0, 0)) rfl (two_put (h.block 0 rfl) x y) (((Keeps.refl _ w).setCell (by simp) x).setCell (by simp) y)
/-- A block more, which came behind a world. -/
theorem Env.laid (h : Env B w0 bs ps w) (hb : Below w.heap.size w w') {g : Nat} {o : Obj} (hg : w'.heap[g]? = some o) (hle : w.heap.size ≤ g) : Env B w0 ((g, o) :: bs) ps w' := by
  have h' := h.step hb
  have hlt : ∀ (j : Nat) (p : Nat × Obj), bs[j]? = some p → p.1 < w.heap.size := fun j p hp => (Array.getElem?_eq_some_iff.1 (h.cells j p hp).2).1
  refine ⟨h'.base, h'.own, fun i p hp => ?_, fun i j p q hp hq e => ?_, fun i q hq => ?_⟩
  · cases i with
    | zero =>
      obtain rfl := Option.some.inj hp
      exact ⟨Nat.le_trans h.own hle, hg⟩
    | succ i => exact h'.cells i p (by simpa using hp)
  · cases i with
    | zero =>
      cases j with
      | zero => rfl
      | succ j =>
        obtain rfl := Option.some.inj hp
        have := hlt j q (by simpa using hq)
        simp only at e
        omega
    | succ i =>
      cases j with
      | zero =>
        obtain rfl := Option.some.inj hq
        have := hlt i p (by simpa using hp)
        simp only at e
        omega
      | succ j => rw [h.apart i j p q (by simpa using hp) (by simpa using hq) e]
  · obtain ⟨h1, h2, h3⟩ := h'.props i q hq
    refine ⟨h1, h2, fun j p hp hc => ?_⟩
    cases j with
    | zero =>
      obtain rfl := Option.some.inj hp
      have := (h.props i q hq).2.1 _ hc
      simp only at this
      omega
    | succ j => exact h3 j p (by simpa using hp) hc
/-- The facts that are wanted alone. -/
theorem Env.only (h : Env B w0 bs ps w) (is : List Nat) (bs' : List (Nat × Obj)) (hb : bs' = is.filterMap (fun i => bs[i]?)) (hn : is.Nodup) : Env B w0 bs' ps w := by
  subst hb
  have hget : ∀ (k : Nat) (p : Nat × Obj), (is.filterMap (fun i => bs[i]?))[k]? = some p → ∃ i ∈ is, bs[i]? = some p := fun k p hp => by
    have := List.mem_of_getElem? hp
    rw [List.mem_filterMap] at this
    exact this
  refine ⟨h.base, h.own, fun i p hp => ?_, ?_, fun i q hq => ?_⟩
  · obtain ⟨j, _, hj⟩ := hget i p hp
    exact h.cells j p hj
  · have hp : (is.filterMap (fun i => bs[i]?)).Pairwise (fun a b => a.1 ≠ b.1) := by
      rw [List.pairwise_filterMap]
      refine List.Pairwise.imp ?_ hn
      intro a b hab p hp q hq e
      exact hab (h.apart a b p q hp hq e)
    intro i j p q h1 h2 e
    rcases Nat.lt_trichotomy i j with hlt | rfl | hlt
    · obtain ⟨l1, e1⟩ := List.getElem?_eq_some_iff.1 h1
      obtain ⟨l2, e2⟩ := List.getElem?_eq_some_iff.1 h2
      have := (List.pairwise_iff_getElem.1 hp) i j l1 l2 hlt
      rw [e1, e2] at this
      exact absurd e this
    · rfl
    · obtain ⟨l1, e1⟩ := List.getElem?_eq_some_iff.1 h1
      obtain ⟨l2, e2⟩ := List.getElem?_eq_some_iff.1 h2
      have := (List.pairwise_iff_getElem.1 hp) j i l2 l1 hlt
      rw [e1, e2] at this
      exact absurd e.symm this
  · obtain ⟨h1, h2, h3⟩ := h.props i q hq
    refine ⟨h1, h2, fun j p hp => ?_⟩
    obtain ⟨k, _, hk⟩ := hget j p hp
    exact h3 k p hk
end
end Go.Proofs.YtcncdepjbhnknaaGreatDoor
/- append of a whole slice, whatever it is, onto a row of the call's own. -/
namespace Go.Proofs.YtcncdepjbhnknaaGreatDoor
open Go.RowKit Go.Shelf

/-- The cells of a slice's elements. -/
def SrcL (w : World) (v : Value) (m : Nat) (cs : List Value) : Prop :=
  (v = .slice none 0 0 ∧ m = 0 ∧ cs = []) ∨ ∃ ad c, v = .slice (some ad) m c ∧ ∀ (j : Nat) (u : Value), cs[j]? = some u → w.cell? (ad.add j) = some u
theorem wpList_append_src {P : Program} {w : World} {ops : Array Oper} {rest : List Oper} {o : Oper} {a : Act} {Q : Exit → Act → World → Prop} (hgd : o.guard = none) (s x : Operand) (t : TypeId)
    (ho : o.op = .call { callee := .builtin .append, args := #[s, x], argTypes := #[t, t] })
    (base : Nat) (e : TypeId) (i : TypeInfo) (z : Value) (size bytes : Nat) (ht : P.underlying t = some (.slice e)) (hi : P.info? e = some i) (hz : i.zero = some z)
    (hsize : i.size = size) (hby : i.bytes = bytes) (hzs : z.cells.size = size) (hsz : 0 < size)
    (v : Value) (n : Nat) (xs : List Value) (hs : a.eval s = v) (hown : w.ownsRow base e size v n xs)
    (v2 : Value) (m : Nat) (cs : List Value) (hx : a.eval x = v2) (hsrc : SrcL w v2 m cs) (hl : cs.length = m * size) (h1 : ∀ u ∈ cs, u.oneCell' = true)
    (h63 : n + m ≤ maxLen) (hbytes : (n + m) * bytes ≤ 140737488355328) (hbase : base ≤ w.heap.size)
    (h : ∀ v' w', w'.ownsRow base e size v' (n + m) (xs ++ cs) → w.grownBy w' v.ownBlock → wpList P ops Q rest (a.put o.dst v') w') : wpList P ops Q (o :: rest) a w := by
  rcases hsrc with ⟨rfl, rfl, rfl⟩ | ⟨ad, c, rfl, hat⟩
  · exact wpList_append_own_none hgd s x t ho base e i size ht hi v n xs hs hown hx (h v w (by simpa using hown) ⟨rfl, rfl, rfl, Nat.le_refl _, fun _ _ _ => rfl⟩)
  · exact wpList_append_own w hgd s x t ho base e i z size bytes ht hi hz hsize hby hzs hsz v n xs hs hown ad m c cs hx hl hat h1 h63 hbytes hbase fun v' w' h2 h3 _ => h v' w' h2 h3
theorem pcells_one : ∀ (ps : List PP), ∀ u ∈ pcells ps, u.oneCell' = true
  | [], u, h => by cases h
  | p :: ps, u, h => by
    rcases List.mem_cons.1 h with rfl | h
    · rfl
    · rcases List.mem_cons.1 h with rfl | h
      · rfl
      · exact pcells_one ps u h
theorem scells_one : ∀ (l : List Sg), ∀ u ∈ scells l, u.oneCell' = true
  | [], u, h => by cases h
  | p :: l, u, h => by
    simp only [scells, List.mem_cons] at h
    rcases h with rfl | rfl | rfl | rfl | rfl | h
    · rfl
    · rfl
    · rfl
    · rfl
    · rfl
    · exact scells_one l u h
/-- Every k-th element's cells, one by one. -/
theorem cells_by {w : World} {b off k m : Nat} {cs : List Value} (hk : 0 < k) (hl : cs.length = m * k) (h : ∀ q, q < m → ∀ r, r < k → w.cell? ⟨b, off + q * k + r, none⟩ = cs[q * k + r]?) :
    ∀ (j : Nat) (u : Value), cs[j]? = some u → w.cell? ((⟨b, off, none⟩ : Addr).add j) = some u := fun j u hu => by
  have hj : j < m * k := by
    rw [← hl]
    rcases Nat.lt_or_ge j cs.length with h' | h'
    · exact h'
    · rw [List.getElem?_eq_none h'] at hu; cases hu
  have h1 := h (j / k) (Nat.div_lt_of_lt_mul (by rw [Nat.mul_comm]; exact hj)) (j % k) (Nat.mod_lt _ hk)
  have e : j / k * k + j % k = j := by rw [Nat.mul_comm]; exact Nat.div_add_mod j k
  rw [Nat.add_assoc, e] at h1
  rw [add_lit', h1]
  exact hu
theorem PL.src {w : World} {v : Value} {ps : List PP} (h : PL w v ps) (hf : PForm v) : SrcL w v ps.length (pcells ps) := by
  obtain ⟨p, cap, rfl, h1, h2, h3⟩ := h
  rcases hf with hf | ⟨ad, m, c, hf⟩
  · injection hf with e1 e2 e3
    obtain rfl : ps = [] := List.eq_nil_of_length_eq_zero e2
    subst e1; subst e3
    exact .inl ⟨rfl, rfl, rfl⟩
  · injection hf with e1 e2 e3
    subst e1
    refine .inr ⟨ad, cap, rfl, ?_⟩
    by_cases hn : ps = []
    · subst hn
      exact fun j u hu => by simp [pcells] at hu
    · obtain ⟨b, off, hb, _, hat⟩ := h3 hn
      obtain rfl := Option.some.inj hb
      refine cells_by (k := 2) (m := ps.length) (by decide) (pcells_length ps) fun q hq r hr => ?_
      obtain ⟨a1, a2⟩ := hat q hq
      obtain ⟨b1, b2⟩ := pcells_at ps q hq
      match r, hr with
      | 0, _ => rw [Nat.add_zero, Nat.add_zero, a1, b1]
      | 1, _ => rw [a2, b2]
theorem SL.src {w : World} {v : Value} {l : List Sg} (h : SL w v l) (hf : PForm v) : SrcL w v l.length (scells l) := by
  obtain ⟨p, cap, rfl, h1, h2, h3⟩ := h
  rcases hf with hf | ⟨ad, m, c, hf⟩
  · injection hf with e1 e2 e3
    obtain rfl : l = [] := List.eq_nil_of_length_eq_zero e2
    subst e1; subst e3
    exact .inl ⟨rfl, rfl, rfl⟩
  · injection hf with e1 e2 e3
    subst e1
    refine .inr ⟨ad, cap, rfl, ?_⟩
    by_cases hn : l = []
    · subst hn
      exact fun j u hu => by simp [scells] at hu
    · obtain ⟨b, off, hb, _, hat⟩ := h3 hn
      obtain rfl := Option.some.inj hb
      refine cells_by (k := 5) (m := l.length) (by decide) (scells_length l) fun q hq r hr => ?_
      obtain ⟨a0, a1, a2, a3, a4⟩ := hat q hq
      obtain ⟨b0, b1, b2, b3, b4⟩ := scells_at l q hq
      rw [sAt_get hq] at b0 b1 b2 b3 b4
      match r, hr with
      | 0, _ => rw [Nat.add_zero, Nat.add_zero, a0, b0]
      | 1, _ => rw [a1, b1]
      | 2, _ => rw [a2, b2]
      | 3, _ => rw [a3, b3]
      | 4, _ => rw [a4, b4]
theorem SrcL.after {w w' : World} {v : Value} {m : Nat} {cs : List Value} (h : SrcL w v m cs) (hb : Below w.heap.size w w') : SrcL w' v m cs := by
  rcases h with h | ⟨ad, c, rfl, hat⟩
  · exact .inl h
  · refine .inr ⟨ad, c, rfl, fun j u hu => ?_⟩
    have h1 := hat j u hu
    exact (hb.cell (World.block_lt_of_cell? _ _ h1)).trans h1
end Go.Proofs.YtcncdepjbhnknaaGreatDoor
/- append of a part of a slice, as one operation; a list with one element more. -/
namespace Go.Proofs.YtcncdepjbhnknaaGreatDoor
open Go.RowKit Go.Shelf

theorem pcells_take : ∀ (ps : List PP) (i : Nat), pcells (ps.take i) = (pcells ps).take (i * 2)
  | ps, 0 => by simp [pcells]
  | [], i + 1 => by simp [pcells]
  | p :: ps, i + 1 => by
    rw [List.take_succ_cons, show (i + 1) * 2 = i * 2 + 1 + 1 by omega]
    simp only [pcells, List.take_succ_cons]
    rw [pcells_take ps i]
theorem pcells_drop : ∀ (ps : List PP) (i : Nat), pcells (ps.drop i) = (pcells ps).drop (i * 2)
  | ps, 0 => by simp
  | [], i + 1 => by simp [pcells]
  | p :: ps, i + 1 => by
    rw [List.drop_succ_cons, show (i + 1) * 2 = i * 2 + 1 + 1 by omega]
    simp only [pcells, List.drop_succ_cons]
    exact pcells_drop ps i
theorem SrcL.lo {w : World} {p : Option Addr} {m c : Nat} {ps : List PP} (h : SrcL w (.slice p m c) m (pcells ps)) {i : Nat} (hi : i ≤ m) : SrcL w (sliced p 0 i c 2) i (pcells (ps.take i)) := by
  rcases h with ⟨h1, h2, h3⟩ | ⟨ad, c', h1, hat⟩
  · injection h1 with e1 e2 e3
    subst e1 e3 h2
    obtain rfl : i = 0 := by omega
    exact .inl ⟨by simp [sliced], rfl, by simp [pcells]⟩
  · injection h1 with e1 e2 e3
    subst e1 e3
    refine .inr ⟨if c = 0 then ad else ad.add 0, c, by unfold sliced; split <;> simp_all, fun j u hu => ?_⟩
    rw [pcells_take] at hu
    have hu2 : (pcells ps)[j]? = some u := by
      rw [List.getElem?_take] at hu
      split at hu
      · exact hu
      · cases hu
    have := hat j u hu2
    split
    · exact this
    · rw [Deep.add_add, Nat.zero_add]; exact this
theorem SrcL.hi {w : World} {p : Option Addr} {m c : Nat} {ps : List PP} (h : SrcL w (.slice p m c) m (pcells ps)) (hm : ps.length = m) (hc : m ≤ c) {i : Nat} (hi : i ≤ m) : SrcL w (sliced p i m c 2) (m - i) (pcells (ps.drop i)) := by
  rcases h with ⟨h1, h2, h3⟩ | ⟨ad, c', h1, hat⟩
  · injection h1 with e1 e2 e3
    subst e1 e3 h2
    obtain rfl : i = 0 := by omega
    exact .inl ⟨by simp [sliced], rfl, by simpa using h3⟩
  · injection h1 with e1 e2 e3
    subst e1 e3
    by_cases hci : c = i
    · refine .inr ⟨ad, c - i, by unfold sliced; rw [if_pos hci], fun j u hu => ?_⟩
      rw [List.drop_eq_nil_of_le (by omega)] at hu
      simp [pcells] at hu
    · refine .inr ⟨ad.add (i * 2), c - i, by unfold sliced; rw [if_neg hci]; rfl, fun j u hu => ?_⟩
      rw [pcells_drop, List.getElem?_drop] at hu
      rw [Deep.add_add]
      exact hat _ u hu
theorem wp_append_src {P : Program} {w : World} {o : Oper} {a : Act} {K : Act → World → Prop} {Q : Exit → Act → World → Prop} (s x : Operand) (t : TypeId)
    (ho : o.op = .call { callee := .builtin .append, args := #[s, x], argTypes := #[t, t] })
    (base : Nat) (e : TypeId) (i : TypeInfo) (z : Value) (size bytes : Nat) (ht : P.underlying t = some (.slice e)) (hi : P.info? e = some i) (hz : i.zero = some z)
    (hsize : i.size = size) (hby : i.bytes = bytes) (hzs : z.cells.size = size) (hsz : 0 < size)
    (v : Value) (n : Nat) (xs : List Value) (hs : a.eval s = v) (hown : w.ownsRow base e size v n xs)
    (v2 : Value) (m : Nat) (cs : List Value) (hx : a.eval x = v2) (hsrc : SrcL w v2 m cs) (hl : cs.length = m * size) (h1 : ∀ u ∈ cs, u.oneCell' = true)
    (h63 : n + m ≤ maxLen) (hbytes : (n + m) * bytes ≤ 140737488355328) (hbase : base ≤ w.heap.size)
    (h : ∀ v' w', w'.ownsRow base e size v' (n + m) (xs ++ cs) → w.grownBy w' v.ownBlock → K (a.put o.dst v') w') : o.wp P a w K Q := by
  rcases hsrc with ⟨rfl, rfl, rfl⟩ | ⟨ad, c, rfl, hat⟩
  · have hrun := run_append_owned_none (P := P) (w := w) base t o.type e i size ht hi v n xs hown
    have h9 := h v w (by simpa using hown) ⟨rfl, rfl, rfl, Nat.le_refl _, fun _ _ _ => rfl⟩
    unfold Oper.wp
    simp [execOp, ho, resolve, invoke, builtin, hs, hx, hrun, Result.andThen]
    exact h9
  · exact wp_append_own w s x t ho base e i z size bytes ht hi hz hsize hby hzs hsz v n xs hs hown ad m c cs hx hl hat h1 h63 hbytes hbase fun v' w' h2 h3 _ => h v' w' h2 h3
/-- A list with one element more at a place. -/
def putL (ps : List PP) (i : Nat) (q : PP) : List PP := ps.take i ++ q :: ps.drop i
theorem putL_len {ps : List PP} {i : Nat} {q : PP} (hi : i ≤ ps.length) : (putL ps i q).length = ps.length + 1 := by simp [putL]; omega
theorem putL_cells (ps : List PP) (i : Nat) (q : PP) : (([] ++ pcells (ps.take i)) ++ [.string q.1, .string q.2]) ++ pcells (ps.drop i) = pcells (putL ps i q) := by
  unfold putL
  rw [pcells_append]
  simp [pcells]
theorem SrcL.single {w : World} {g : Nat} {s t : ByteArray} {T : TypeId} (h : w.heap[g]? = some (.cells #[.string s, .string t] T (0, 0))) : SrcL w (.slice (some ⟨g, 0, none⟩) 1 1) 1 [.string s, .string t] := by
  refine .inr ⟨_, _, rfl, fun j u hu => ?_⟩
  rw [add_lit', Nat.zero_add]
  match j, hu with
  | 0, hu => exact known_cell h 0 (by simpa using hu)
  | 1, hu => exact known_cell h 1 (by simpa using hu)
  | j + 2, hu => simp at hu
/-- The row of a literal is in its own block; what else is there stays when it grows. -/
theorem grown_keeps {w w' : World} {v : Value} {g b : Nat} {o : Obj} (h : w.grownBy w' v.ownBlock) (hv : v.ownBlock = some b) (hg : w.heap[g]? = some o) (hne : g ≠ b) : w'.heap[g]? = some o := by
  rw [h.block g (Array.getElem?_eq_some_iff.1 hg).1 (by rw [hv]; intro e; exact hne (Option.some.inj e))]
  exact hg
theorem own_to {w : World} {b size n k : Nat} {e : TypeId} {v : Value} {xs : List Value} (h : w.ownsRow b e size v n xs) (hn : n = k) : w.ownsRow b e size v k xs := hn ▸ h
theorem own_shape {w : World} {b size n : Nat} {e : TypeId} {v : Value} {xs : List Value} (h : w.ownsRow b e size v n xs) : ∃ p c, v = .slice p n c := by
  rcases h.2 with ⟨rfl, rfl⟩ | ⟨g, cap, cur, rfl, _⟩
  · exact ⟨none, 0, rfl⟩
  · exact ⟨_, _, rfl⟩
theorem MissOk.putL {bs : List BB} {ps : List PP} {i : Nat} {q : PP} (h : MissOk bs ps) (hq : smallP 300 q = true) (hl : ps.length ≤ 6) (hi : i ≤ ps.length) : MissOk bs (putL ps i q) := by
  refine ⟨⟨h.1.1, ?_⟩, by rw [putL_len hi]; omega⟩
  rw [List.all_eq_true]
  intro x hx
  have h1 := List.all_eq_true.1 h.1.2
  unfold Go.Proofs.YtcncdepjbhnknaaGreatDoor.putL at hx
  rcases List.mem_append.1 hx with hx | hx
  · exact h1 x (List.mem_of_mem_take hx)
  · rcases List.mem_cons.1 hx with rfl | hx
    · exact hq
    · exact h1 x (List.mem_of_mem_drop hx)
theorem MissOk.reverse {bs : List BB} {ps : List PP} (h : MissOk bs ps) : MissOk bs ps.reverse := by
  refine ⟨⟨h.1.1, ?_⟩, by rw [List.length_reverse]; exact h.2⟩
  rw [List.all_eq_true]
  exact fun x hx => List.all_eq_true.1 h.1.2 x (List.mem_reverse.1 hx)
theorem MissP.ok_nums {bs : List BB} {ps : List PP} {x y : ByteArray} {n : Int} (h : MissP bs ps x y n) (hk : MissOk bs ps) : n = 0 ∨ n = 4 := by
  rcases h with ⟨h, _⟩ | ⟨_, cs, _, ⟨_, _, _, h⟩ | ⟨_, _, _, h⟩⟩
  · exact absurd hk h
  · exact .inl h
  · exact .inr h
end Go.Proofs.YtcncdepjbhnknaaGreatDoor
