/- The parts RankOf, RankSort, Rank, Cover of a proof, put together by program (merge.py). -/
import Derived.Test.YthbpadjhlkdpeaaGreatDoorG21
import Derived.Test.YthbpadjhlkdpeaaGreatDoorG02
import Derived.Deep.RegionHeld3
import Derived.BigQuiet
import Derived.Test.YthbpadjhlkdpeaaGreatDoorG22
import Derived.Test.YthbpadjhlkdpeaaGreatDoorG24
import Derived.Test.YthbpadjhlkdpeaaGreatDoorG40
import Derived.Test.YthbpadjhlkdpeaaGreatDoorG15
/- Orders of lists of fractions: what Rank and Cover answer. No program is in sight. -/
namespace Go.Proofs.YthbpadjhlkdpeaaGreatDoor

/-- Index i comes ahead of k: a greater element, or as great a one and the lower index. -/
def geR (qs : List Rat) (i k : Nat) : Prop := qs.getD k 0 < qs.getD i 0 ∨ (qs.getD i 0 = qs.getD k 0 ∧ i < k)
/-- The indices of greater elements first. -/
def RankOf (qs : List Rat) (l : List Nat) : Prop := l.Perm (List.range qs.length) ∧ l.Pairwise (geR qs)

theorem geR.asymm {qs : List Rat} {i k : Nat} (h : geR qs i k) (h2 : geR qs k i) : False := by
  rcases h with h | ⟨h, h'⟩ <;> rcases h2 with k2 | ⟨k2, k'⟩
  · grind
  · rw [k2] at h; exact Rat.lt_irrefl h
  · rw [h] at k2; exact Rat.lt_irrefl k2
  · omega
theorem RankOf.unique {qs : List Rat} {l m : List Nat} (h : RankOf qs l) (k : RankOf qs m) : l = m :=
  List.Perm.eq_of_pairwise (le := geR qs) (fun _ _ _ _ h1 h2 => (h1.asymm h2).elim) h.2 k.2 (h.1.trans k.1.symm)

/-- Where an insertion stands: x = i is between A and B, the rest is as it was. -/
structure Ins (qs : List Rat) (n i : Nat) (A B : List Nat) : Prop where
  perm : (A ++ B).Perm (List.range i)
  ord : (A ++ B).Pairwise (geR qs)
  less : ∀ b ∈ B, qs.getD b 0 < qs.getD i 0

/-- The row's numbers while i is put in. -/
def insRow (n i : Nat) (A B : List Nat) : List Nat := A ++ i :: B ++ (List.range n).drop (i + 1)
theorem insRow_length {n i : Nat} {A B : List Nat} (hi : i < n) (h : A.length + B.length = i) : (insRow n i A B).length = n := by
  unfold insRow
  simp
  omega
theorem insRow_at {n i : Nat} {A B : List Nat} : (insRow n i A B).getD A.length 0 = i := by
  unfold insRow
  simp [List.getD]
theorem insRow_prev {n i y : Nat} {A B : List Nat} : (insRow n i (A ++ [y]) B).getD A.length 0 = y := by
  unfold insRow
  simp [List.getD]
theorem insRow_swap {n i y : Nat} {A B : List Nat} : ((insRow n i (A ++ [y]) B).set (A.length + 1) y).set A.length i = insRow n i A (y :: B) := by
  unfold insRow
  simp
theorem Ins.start {qs : List Rat} {n i : Nat} {L : List Nat} (h : L.Perm (List.range i)) (h2 : L.Pairwise (geR qs)) : Ins qs n i L [] :=
  ⟨by simpa using h, by simpa using h2, by simp⟩
theorem Ins.next {qs : List Rat} {n i y : Nat} {A B : List Nat} (h : Ins qs n i (A ++ [y]) B) (hy : qs.getD y 0 < qs.getD i 0) : Ins qs n i A (y :: B) :=
  ⟨by simpa using h.perm, by simpa using h.ord, fun b hb => by
    rcases List.mem_cons.1 hb with rfl | hb
    · exact hy
    · exact h.less b hb⟩
theorem Ins.lt {qs : List Rat} {n i : Nat} {A B : List Nat} (h : Ins qs n i A B) {a : Nat} (ha : a ∈ A ++ B) : a < i := by
  have := (h.perm.mem_iff (a := a)).1 ha
  simpa using this
theorem Ins.length {qs : List Rat} {n i : Nat} {A B : List Nat} (h : Ins qs n i A B) : A.length + B.length = i := by
  have := h.perm.length_eq
  simpa using this
theorem Ins.done {qs : List Rat} {n i : Nat} {A B : List Nat} (h : Ins qs n i A B) (hs : ∀ A' y, A = A' ++ [y] → qs.getD i 0 ≤ qs.getD y 0) :
    (A ++ i :: B).Perm (List.range (i + 1)) ∧ (A ++ i :: B).Pairwise (geR qs) := by
  refine ⟨?_, ?_⟩
  · rw [List.range_succ]
    refine List.perm_middle.trans ?_
    refine (List.Perm.cons i h.perm).trans ?_
    exact (List.perm_append_singleton i _).symm
  · have ho := List.pairwise_append.1 h.ord
    refine List.pairwise_append.2 ⟨ho.1, List.pairwise_cons.2 ⟨fun b hb => .inl (h.less b hb), ho.2.1⟩, fun a ha b hb => ?_⟩
    rcases List.mem_cons.1 hb with rfl | hb
    · rcases List.eq_nil_or_concat A with rfl | ⟨A', y, rfl⟩
      · simp at ha
      · rw [List.concat_eq_append] at *
        have h1 := hs A' y rfl
        have h3 : a < b := h.lt (List.mem_append_left _ ha)
        have h2 : qs.getD y 0 ≤ qs.getD a 0 := by
          rcases List.mem_append.1 ha with h4 | h4
          · rcases (List.pairwise_append.1 ho.1).2.2 a h4 y (by simp) with h5 | ⟨h5, _⟩
            · exact Rat.le_of_lt h5
            · rw [h5]; exact Rat.le_refl
          · rw [List.mem_singleton.1 h4]; exact Rat.le_refl
        rcases Rat.le_iff_lt_or_eq.1 (Rat.le_trans h1 h2) with h4 | h4
        · exact .inl h4
        · exact .inr ⟨h4.symm, h3⟩
    · exact ho.2.2 a ha b hb

/-- The elements in an order of indices. -/
def pick (qs : List Rat) (l : List Nat) : List Rat := l.map fun i => qs.getD i 0
theorem sumR_add : ∀ (qs : List Rat) (a : Rat), sumR a qs = a + sumR 0 qs
  | [], a => by show a = a + 0; grind
  | q :: qs, a => by
    unfold sumR
    rw [sumR_add qs (a + q), sumR_add qs (0 + q)]
    grind
theorem sumR_cons (q : Rat) (qs : List Rat) : sumR 0 (q :: qs) = q + sumR 0 qs := by
  rw [sumR, sumR_add]; grind
theorem sumR_append (a b : List Rat) : sumR 0 (a ++ b) = sumR 0 a + sumR 0 b := by
  induction a with
  | nil => show _ = 0 + _; simp; grind
  | cons q a ih => rw [List.cons_append, sumR_cons, sumR_cons, ih]; grind
theorem sumR_perm {a b : List Rat} (h : a.Perm b) : sumR 0 a = sumR 0 b := by
  induction h with
  | nil => rfl
  | cons x _ ih => rw [sumR_cons, sumR_cons, ih]
  | swap x y l => rw [sumR_cons, sumR_cons, sumR_cons, sumR_cons]; grind
  | trans _ _ h1 h2 => rw [h1, h2]
theorem sumR_nn {qs : List Rat} (h : ∀ q ∈ qs, 0 ≤ q) : 0 ≤ sumR 0 qs := by
  induction qs with
  | nil => exact Rat.le_refl
  | cons q qs ih =>
    rw [sumR_cons]
    have h1 := h q (by simp)
    have h2 := ih fun x hx => h x (List.mem_cons_of_mem _ hx)
    grind
/-- No choice of so many has a greater sum than the first ones have. -/
theorem first_most {qs : List Rat} : ∀ (r s : List Nat), r.Pairwise (fun i k => qs.getD k 0 ≤ qs.getD i 0) → s.Nodup → (∀ x ∈ s, x ∈ r) → sumR 0 (pick qs s) ≤ sumR 0 (pick qs (r.take s.length))
  | [], s, _, _, h => by
    cases s with
    | nil => exact Rat.le_refl
    | cons x s => have := h x (by simp); simp at this
  | a :: r, s, ho, hn, h => by
    obtain ⟨h1, h2⟩ := List.pairwise_cons.1 ho
    by_cases ha : a ∈ s
    · have hp := List.perm_cons_erase ha
      have e1 : sumR 0 (pick qs s) = qs.getD a 0 + sumR 0 (pick qs (s.erase a)) := by
        have := sumR_perm (hp.map fun i => qs.getD i 0)
        rw [List.map_cons, sumR_cons] at this
        exact this
      have hl : s.length = (s.erase a).length + 1 := by rw [hp.length_eq]; simp
      have ih := first_most r (s.erase a) h2 (hn.erase a) fun x hx => by
        have hm := (List.Nodup.mem_erase_iff hn).1 hx
        rcases List.mem_cons.1 (h x hm.2) with h3 | h3
        · exact absurd h3 hm.1
        · exact h3
      rw [e1, hl, List.take_succ_cons]
      show _ ≤ sumR 0 (qs.getD a 0 :: pick qs _)
      rw [sumR_cons]
      grind
    · cases s with
      | nil => exact Rat.le_refl
      | cons x s =>
        obtain ⟨hx, hn2⟩ := List.nodup_cons.1 hn
        have hxr : x ∈ r := by
          rcases List.mem_cons.1 (h x (by simp)) with h3 | h3
          · subst h3; exact absurd (by simp) ha
          · exact h3
        have ih := first_most r s h2 hn2 fun y hy => by
          rcases List.mem_cons.1 (h y (List.mem_cons_of_mem _ hy)) with h3 | h3
          · subst h3; exact absurd (List.mem_cons_of_mem _ hy) ha
          · exact h3
        have h4 := h1 x hxr
        rw [List.length_cons, List.take_succ_cons]
        show sumR 0 (qs.getD x 0 :: pick qs s) ≤ sumR 0 (qs.getD a 0 :: pick qs _)
        rw [sumR_cons, sumR_cons]
        grind

/-- What Cover answers: how many of the values, from the first on, have a sum. -/
def coverA : List Rat → Rat → Rat → Nat → Nat × Int
  | [], s, p, n => if s < p then (0, 7) else (n, 0)
  | q :: qs, s, p, n => if p ≤ s then (n, 0) else if Fits (s + q) then coverA qs (s + q) p (n + 1) else (0, 4)
theorem cover_le : ∀ (vs : List Rat) (s p : Rat) (n k : Nat), (∀ j, j ≤ vs.length → Fits (s + sumR 0 (vs.take j))) → k ≤ vs.length → p ≤ s + sumR 0 (vs.take k) → ∃ m, coverA vs s p n = (m, 0) ∧ m ≤ n + k
  | [], s, p, n, k, _, _, hp => by
    have h0 : ¬ s < p := by
      have : sumR 0 (([] : List Rat).take k) = 0 := by simp [sumR]
      rw [this] at hp
      grind
    exact ⟨n, by rw [coverA, if_neg h0], by omega⟩
  | q :: vs, s, p, n, k, hf, hk, hp => by
    by_cases h0 : p ≤ s
    · exact ⟨n, by rw [coverA, if_pos h0], by omega⟩
    · cases k with
      | zero =>
        exfalso
        have : sumR 0 ((q :: vs).take 0) = 0 := rfl
        rw [this] at hp
        grind
      | succ k =>
        have e : ∀ j, s + sumR 0 ((q :: vs).take (j + 1)) = (s + q) + sumR 0 (vs.take j) := fun j => by rw [List.take_succ_cons, sumR_cons]; grind
        rw [e] at hp
        have h1 : Fits (s + q) := by
          have := hf 1 (by simp)
          rw [e 0] at this
          have e0 : s + q + sumR 0 (vs.take 0) = s + q := by show s + q + 0 = _; grind
          rwa [e0] at this
        obtain ⟨m, h2, h3⟩ := cover_le vs (s + q) p (n + 1) k (fun j hj => by rw [← e]; exact hf (j + 1) (by simp; omega)) (by simpa using hk) hp
        exact ⟨m, by rw [coverA, if_neg h0, if_pos h1, h2], by omega⟩
end Go.Proofs.YthbpadjhlkdpeaaGreatDoor
/- slices' insertion sort, at indices, by a comparison that makes memory of its own. -/
namespace Go.Proofs.YthbpadjhlkdpeaaGreatDoor
open Go.RowKit Go.Shelf
attribute [local go_sem ↓] Go.wp_at_zero Go.wp_at_succ

/-- What the comparison answers: y is greater than x, or not. -/
def CmpOk (qs : List Rat) (x y : Nat) (w : World) (e : Ending) (w' : World) : Prop := ∃ r : Int, e = .returned (.int .i64 r) ∧ (r < 0 ↔ qs.getD y 0 < qs.getD x 0) ∧ Below w.heap.size w w'
def Sorted (qs : List Rat) (n B g cap : Nat) (w : World) (e : Ending) (w' : World) : Prop :=
  e = .returned (.tuple #[]) ∧ ∃ L : List Nat, L.Perm (List.range n) ∧ L.Pairwise (geR qs) ∧ Row .i64 3 w' B g cap L ∧ Keeps (fun b => b ≠ g) w w'
theorem drop_range {i n : Nat} (h : i < n) : (List.range n).drop i = i :: (List.range n).drop (i + 1) := by
  rw [List.drop_eq_getElem_cons (by simpa using h)]; simp
theorem Ins.row {qs : List Rat} {n i : Nat} {A B : List Nat} (h : Ins qs n i A B) (hi : i < n) : (insRow n i A B).length = n := insRow_length hi h.length
theorem Row.len {k : IntKind} {E : TypeId} {w : World} {B g cap n : Nat} {xs : List Nat} (h : Row k E w B g cap xs) (hn : xs.length = n) : n ≤ cap ∧ cap ≤ maxLen := by
  have := h.cap_le
  rw [hn] at this
  exact this

set_option maxRecDepth 100000 in
set_option maxHeartbeats 8000000 in
theorem insertion_any {qs : List Rat} {n B g cap cf : Nat} {cb : Array Value} {w : World} (hent : ∀ args w, (callFunc cf args).run Tryz.prog w = .ok (.enter cf args) w)
    (hcmp : ∀ W, Keeps (fun b => b ≠ g) w W → ∀ x y, x < n → y < n → Calls Tryz.prog cf (#[.int .i64 x, .int .i64 y] ++ cb) W (CmpOk qs x y W))
    (hr : Row .i64 3 w B g cap (List.range n)) (h1 : 0 < n) (hn : n ≤ 512) :
    Calls Tryz.prog 171 #[.slice (some ⟨g, 0, none⟩) n cap, .int .i64 0, .int .i64 n, .func (.func cf) #[] cb] w (Sorted qs n B g cap w) := by
  have hcap := hr.len (n := n) (by simp)
  have hc1 := hcap.1
  have hc2 := hcap.2
  unfold maxLen at hc2
  have HC := Lib.hid hcmp
  have HR0 : Hid (Row .i64 3 w B g cap ([0] ++ (List.range n).drop 1)) := by
    show Row _ _ _ _ _ _ _
    rw [show [0] ++ (List.range n).drop 1 = List.range n from (drop_range h1).symm]
    exact hr
  clear hcmp hr hcap
  go_enter Tryz.func171, Tryz.ntmps171
  go_wp2
  go_loopw [8] (fun vi wr => ∃ (i : Nat) (L : List Nat), vi = .int .i64 i ∧ 1 ≤ i ∧ i ≤ n ∧ Hid (L.Perm (List.range i) ∧ L.Pairwise (geR qs)) ∧
      Hid (Row .i64 3 wr B g cap (L ++ (List.range n).drop i)) ∧ Hid (Keeps (fun b => b ≠ g) w wr)) (fun vi _ => n - (intOf vi).toNat)
  case atStart => exact ⟨1, [0], by go_num, Nat.le_refl _, h1, ⟨List.Perm.refl _, by simp⟩, HR0, Keeps.refl _ _⟩
  case round =>
    obtain ⟨i, L, rfl, hi1, hin, HL, HR, HK⟩ := hrel
    by_cases hlt : i < n
    · have hltz : (i : Int) < (n : Int) := by omega
      have HI0 : Hid (Ins qs n i L []) := Ins.start HL.out.1 HL.out.2
      have HLen : Hid (L.length = i) := by show _ = _; have := HL.out.1.length_eq; simpa using this
      have HR1 : Hid (Row .i64 3 wr B g cap (insRow n i L [])) := by
        have := HR.out
        rw [drop_range hlt] at this
        have e : insRow n i L [] = L ++ i :: (List.range n).drop (i + 1) := by unfold insRow; simp
        show Row _ _ _ _ _ _ _
        rw [e]; exact this
      clear HR HL
      go_wp2
      obtain ⟨wo, hwo⟩ : ∃ wo : World, wo = wr := ⟨_, rfl⟩
      go_loopw [9] (fun vj wr2 => ∃ (j : Nat) (A Bs : List Nat), vj = .int .i64 j ∧ j ≤ i ∧ Hid (A.length = j) ∧ Hid (Ins qs n i A Bs) ∧ Hid (Row .i64 3 wr2 B g cap (insRow n i A Bs)) ∧ Hid (Keeps (fun b => b ≠ g) w wr2)) (fun vj _ => (intOf vj).toNat)
      case atStart => exact ⟨i, L, [], rfl, Nat.le_refl _, HLen, HI0, HR1, HK⟩
      case round =>
        clear HI0 HLen HR1 HK hwo
        obtain ⟨j, A, Bs, rfl, hji, HJ, HI, HR, HK⟩ := hrel
        rcases List.eq_nil_or_concat A with hA | ⟨A', y, hA⟩
        · subst hA
          obtain rfl : j = 0 := HJ.out.symm
          have HD : Hid ((i :: Bs).Perm (List.range (i + 1)) ∧ (i :: Bs).Pairwise (geR qs)) := HI.out.done (fun A' y h => by simp at h)
          go_wp2_with fail
          go_region
          go_wp2
          go_roundw
          case rel => exact ⟨i + 1, i :: Bs, by go_num, by omega, by omega, HD, HR.out, HK.out.drew⟩
          case measure => simp [intOf]; omega
        · rw [List.concat_eq_append] at hA
          subst hA
          obtain ⟨jp, rfl⟩ : ∃ jp, j = jp + 1 := ⟨A'.length, by have := HJ.out; simpa using this.symm⟩
          have HJ2 : Hid (A'.length = jp) := by show _ = _; have := HJ.out; simpa using this
          have hyi : y < i := HI.out.lt (by simp)
          have hrl := HI.out.row hlt
          have cj : wr.cell? ⟨g, jp + 1, none⟩ = some (.int .i64 (i : Nat)) := HR.out.cell (by rw [hrl]; omega) (by have := insRow_at (n := n) (i := i) (A := A' ++ [y]) (B := Bs); rw [List.length_append, HJ2.out] at this; exact this)
          have cp : wr.cell? ⟨g, jp, none⟩ = some (.int .i64 (y : Nat)) := HR.out.cell (by rw [hrl]; omega) (by have := insRow_prev (n := n) (i := i) (y := y) (A := A') (B := Bs); rw [HJ2.out] at this; exact this)
          have fj := HR.out.frozen (jp + 1)
          have fp := HR.out.frozen jp
          clear hrl
          have hjz : (0 : Int) < (jp : Int) + 1 := by omega
          have hjA : (0 : Int) ≤ (jp : Int) + 1 := by omega
          have hjB : (jp : Int) + 1 < (n : Int) := by omega
          have hjC : (0 : Int) ≤ (jp : Int) := by omega
          have hjD : (jp : Int) < (n : Int) := by omega
          have hwp : IntKind.i64.wrap (jp : Int) = (jp : Int) := by rw [IntKind.wrap_i64]; omega
          have e0 : ((jp : Int) + 1).toNat = jp + 1 := by omega
          have HCC := Lib.hid (HC.out _ HK.out.drew i y hlt (by omega))
          have HCF := Lib.hid (And.intro fj fp)
          clear fj fp
          have hrw : ∀ w', Below wr.heap.size wr w' → w'.cell? ⟨g, jp + 1, none⟩ = some (.int .i64 (i : Nat)) ∧ w'.cell? ⟨g, jp, none⟩ = some (.int .i64 (y : Nat)) := fun w' h => by
            have hg := HR.out.lt.2
            exact ⟨(h.cell (p := ⟨g, jp + 1, none⟩) hg).trans cj, (h.cell (p := ⟨g, jp, none⟩) hg).trans cp⟩
          have HRW := Lib.hid hrw
          clear hrw
          by_cases hq : qs.getD y 0 < qs.getD i 0
          · have HQ := Lib.hid hq
            clear hq
            skip
            go_wp2_with fail
            go_region_held3
              (fun w' => w'.cell? ⟨g, jp + 1, none⟩ = some (.int .i64 (i : Nat)) ∧ w'.cell? ⟨g, jp, none⟩ = some (.int .i64 (y : Nat)))
              (first | exact ⟨cj, cp⟩ | exact HK2.out)
              (first
                | (refine HCC.out.mono ?_; rintro e w2 ⟨r, rfl, hiff, hb⟩; have HX2 : Hid (Below wr.heap.size wr w2) := ((Below.refl wr.heap.size wr).drew).trans hb; have HK2 := Lib.hid (HRW.out w2 HX2.out); have HIFF := Lib.hid hiff; clear hb hiff))
            have hr0 : r < 0 := HIFF.out.2 HQ.out
            have hrd : decide (r < 0) = true := decide_eq_true hr0
            have HS2 : Hid (Row .i64 3 w2 B g cap (insRow n i (A' ++ [y]) Bs)) := HR.out.below HX2.out HR.out.lt.2
            obtain ⟨cj2, cp2⟩ := HK2.out
            have fj2 := HS2.out.frozen (jp + 1)
            have fp2 := HS2.out.frozen jp
            have HSW : Hid (Row .i64 3 ((w2.setCell ⟨g, jp + 1, none⟩ (.int .i64 (y : Nat))).setCell ⟨g, jp, none⟩ (.int .i64 (i : Nat))) B g cap (insRow n i A' (y :: Bs))) := by
              have := (HS2.out.set (jp + 1) y).set jp i
              have e := insRow_swap (n := n) (i := i) (y := y) (A := A') (B := Bs)
              rw [HJ2.out] at e
              rw [e] at this
              exact this
            have HK3 : Hid (Keeps (fun b => b ≠ g) w ((w2.setCell ⟨g, jp + 1, none⟩ (.int .i64 (y : Nat))).setCell ⟨g, jp, none⟩ (.int .i64 (i : Nat)))) := by
              have h1 : Keeps (fun b => b ≠ g) w w2 := HK.out.below HX2.out (fun b hb _ => hb)
              exact (h1.setCell (fun h => h rfl) _).setCell (fun h => h rfl) _
            have HIN := Lib.hid (HI.out.next HQ.out)
            clear cj cp HK2
            go_wp2_with fail
            go_region
            go_wp2
            go_roundw
            case rel => exact ⟨jp, A', y :: Bs, by go_num, by omega, HJ2, HIN, HSW.out, HK3.out.drew⟩
            case measure => simp [intOf]
          · have HQ := Lib.hid hq
            clear hq
            skip
            go_wp2_with fail
            go_region_held3
              (fun w' => w'.cell? ⟨g, jp + 1, none⟩ = some (.int .i64 (i : Nat)) ∧ w'.cell? ⟨g, jp, none⟩ = some (.int .i64 (y : Nat)))
              (first | exact ⟨cj, cp⟩ | exact HK2.out)
              (first
                | (refine HCC.out.mono ?_; rintro e w2 ⟨r, rfl, hiff, hb⟩; have HX2 : Hid (Below wr.heap.size wr w2) := ((Below.refl wr.heap.size wr).drew).trans hb; have HK2 := Lib.hid (HRW.out w2 HX2.out); have HIFF := Lib.hid hiff; clear hb hiff))
            have hr0 : ¬ r < 0 := fun h => HQ.out (HIFF.out.1 h)
            have hrd : decide (r < 0) = false := decide_eq_false hr0
            have HDN := Lib.hid (HI.out.done (fun A2 z h => by
              obtain ⟨h1, h2⟩ := List.append_inj' h rfl
              injection h2 with h2
              subst h2
              exact Rat.not_lt.1 HQ.out))
            have HS2 : Hid (Row .i64 3 w2 B g cap ((A' ++ [y]) ++ i :: Bs ++ (List.range n).drop (i + 1))) := HR.out.below HX2.out HR.out.lt.2
            have HK3 : Hid (Keeps (fun b => b ≠ g) w w2) := HK.out.below HX2.out (fun b hb _ => hb)
            clear cj cp HK2
            go_wp2
            go_roundw
            case rel => exact ⟨i + 1, _, by go_num, by omega, by omega, HDN.out, HS2.out, HK3.out⟩
            case measure => simp [intOf]; omega
    · obtain rfl : i = n := by omega
      have HR1 : Hid (Row .i64 3 wr B g cap L) := by
        have := HR.out
        rw [List.drop_of_length_le (by simp), List.append_nil] at this
        exact this
      go_wp2
      refine bodyPost_ret (v := .tuple #[]) (by simp [results, Tryz.f171, go_sem]) rfl ⟨rfl, L, HL.out.1, HL.out.2, HR1.out, HK.out⟩
end Go.Proofs.YthbpadjhlkdpeaaGreatDoor
/- weight's Rank: the indices of greater elements first (up to 19 elements). -/
namespace Go.Proofs.YthbpadjhlkdpeaaGreatDoor
open Go.RowKit Go.Shelf
attribute [local go_sem ↓] Go.wp_at_zero Go.wp_at_succ

theorem Keeps.toBelow {g B : Nat} {w w' : World} (h : Keeps (fun b => b ≠ g) w w') (hg : B ≤ g) (hB : B ≤ w.heap.size) : Below B w w' :=
  ⟨h.os, h.tape, h.output, h.size, fun k hk => h.block k (by omega) (by omega)⟩
theorem rats_at {ps : List PP} {k : Nat} {s t : ByteArray} (h : ps[k]? = some (s, t)) : (rats ps).getD k 0 = ratP s t := by
  simp [rats, List.getD, h]

set_option maxRecDepth 100000 in
set_option maxHeartbeats 4000000 in
/-- The comparison of Rank: elements y and x. -/
theorem rank1_any {u : Value} {ps : List PP} {b0 x y n : Nat} {w : World} (hu : PL w u ps) (hc : w.cell? ⟨b0, 0, none⟩ = some u) (hok : ∀ p ∈ ps, okP p.1 p.2 = true) (hn : ps.length = n) (hx : x < n) (hy : y < n) :
    Calls Tryz.prog 119 #[.int .i64 x, .int .i64 y, .pointer (some ⟨b0, 0, none⟩)] w (CmpOk (rats ps) x y w) := by
  obtain ⟨p, cap, rfl, hcap, hmax, _⟩ := id hu
  rw [hn] at hu hcap hc
  unfold maxLen at hmax
  have hb0 : b0 < w.heap.size := World.block_lt_of_cell? _ _ hc
  obtain ⟨b, o, sx, tx, sy, ty, rfl, e1, e2, hcs⟩ := hu.two hn hx hy
  have q1 : IsP (ratP sx tx) sx tx := isP_of_ok (hok (sx, tx) (List.mem_of_getElem? e1))
  have q2 : IsP (ratP sy ty) sy ty := isP_of_ok (hok (sy, ty) (List.mem_of_getElem? e2))
  have HR : Hid ((rats ps).getD x 0 = ratP sx tx ∧ (rats ps).getD y 0 = ratP sy ty) := ⟨rats_at e1, rats_at e2⟩
  have HQ1 := Lib.hid q1
  have HQ2 := Lib.hid q2
  have hS : ∀ w', Below w.heap.size w w' → w'.cell? ⟨b0, 0, none⟩ = some (.slice (some ⟨b, o, none⟩) n cap) ∧ w'.cell? ⟨b, o + x * 2, none⟩ = some (.string sx) ∧ w'.cell? ⟨b, o + x * 2 + 1, none⟩ = some (.string tx) ∧ w'.cell? ⟨b, o + y * 2, none⟩ = some (.string sy) ∧ w'.cell? ⟨b, o + y * 2 + 1, none⟩ = some (.string ty) := fun w' h =>
    ⟨(h.cell (p := ⟨b0, 0, none⟩) hb0).trans hc, hcs w' h⟩
  have HS := Lib.hid hS
  have hx0 : (0 : Int) ≤ x := by omega
  have hxn : (x : Int) < n := by omega
  have hy0 : (0 : Int) ≤ y := by omega
  have hyn : (y : Int) < n := by omega
  clear hu hok hn hx hy q1 q2 e1 e2 hcs hc hS
  obtain ⟨k0, k1, k2, k3, k4⟩ := HS.out w (Below.refl _ w)
  go_enter Tryz.func119, Tryz.ntmps119
  go_wp2_with fail
  go_region_held3
    (fun w' => w'.cell? ⟨b0, 0, none⟩ = some (.slice (some ⟨b, o, none⟩) n cap) ∧ w'.cell? ⟨b, o + x * 2, none⟩ = some (.string sx) ∧ w'.cell? ⟨b, o + x * 2 + 1, none⟩ = some (.string tx) ∧ w'.cell? ⟨b, o + y * 2, none⟩ = some (.string sy) ∧ w'.cell? ⟨b, o + y * 2 + 1, none⟩ = some (.string ty))
    (first | exact ⟨k0, k1, k2, k3, k4⟩ | exact HK2.out)
    (first
      | (go_at_call 37; refine (cmp_to HQ2.out HQ1.out rfl _).mono ?_; rintro e w2 ⟨rfl, hb⟩; have HX2 : Hid (Below w.heap.size w w2) := ((Below.refl w.heap.size w).drew).trans hb; have HK2 := Lib.hid (HS.out w2 HX2.out); clear hb))
  clear k0 k1 k2 k3 k4
  go_wp2
  go_ret
  refine ⟨_, rfl, ?_, HX2.out⟩
  rw [HR.out.1, HR.out.2]
  unfold sgnR
  split
  · simp [*]
  · split
    · simp [*]
    · simp [*]

/-- What Rank answers. -/
def RankPost (ps : List PP) (w : World) (e : Ending) (w' : World) : Prop :=
  Below w.heap.size w w' ∧ ((chkL [ps] ≠ 0 ∧ e = .returned (.tuple #[.slice none 0 0, .int .i64 (chkL [ps])])) ∨
    (chkL [ps] = 0 ∧ ∃ v L, e = .returned (.tuple #[v, .int .i64 0]) ∧ RankOf (rats ps) L ∧ Nums .i64 w' v L))

set_option maxRecDepth 100000 in
set_option maxHeartbeats 4000000 in
theorem stable_any {qs : List Rat} {n B g cap cf : Nat} {cb : Array Value} {w : World} (hent : ∀ args w, (callFunc cf args).run Tryz.prog w = .ok (.enter cf args) w)
    (hcmp : ∀ W, Keeps (fun b => b ≠ g) w W → ∀ x y, x < n → y < n → Calls Tryz.prog cf (#[.int .i64 x, .int .i64 y] ++ cb) W (CmpOk qs x y W))
    (hr : Row .i64 3 w B g cap (List.range n)) (h1 : 0 < n) (hn : n < 20) :
    Calls Tryz.prog 118 #[.slice (some ⟨g, 0, none⟩) n cap, .func (.func cf) #[] cb] w (Sorted qs n B g cap w) := by
  have HS := Lib.hid (insertion_any hent hcmp hr h1 (by omega))
  clear hent hcmp hr
  have hn1 : ¬ (20 : Int) ≤ n := by omega
  have hn2 : ¬ (20 : Int) < n := by omega
  have H2 : Hid (Calls Tryz.prog 143 #[.slice (some ⟨g, 0, none⟩) n cap, .int .i64 n, .func (.func cf) #[] cb] w (Sorted qs n B g cap w)) := by
    show Calls _ _ _ _ _
    go_enter Tryz.func143, Tryz.ntmps143
    go_wp2
    go_loopw [7, 8] (fun va vb wr => va = .int .i64 0 ∧ vb = .int .i64 20 ∧ wr = w) (fun _ _ _ => 0)
    case atStart => exact ⟨rfl, rfl, rfl⟩
    case round =>
      obtain ⟨rfl, rfl, rfl⟩ := hrel
      go_wp2_with fail
      refine HS.out.mono ?_
      rintro e w2 ⟨rfl, h⟩
      have HH := Lib.hid h
      clear h
      go_wp2
      go_loopw [6] (fun vb wr => vb = .int .i64 20 ∧ wr = w2) (fun _ _ => 0)
      case atStart => exact ⟨rfl, rfl⟩
      case round =>
        obtain ⟨rfl, rfl⟩ := hrel
        go_wp2
        exact bodyPost_ret (v := .tuple #[]) (by simp [results, Tryz.f143, go_sem]) rfl ⟨rfl, HH.out⟩
  go_enter Tryz.func118, Tryz.ntmps118
  go_wp2_with fail
  refine H2.out.mono ?_
  rintro e w2 ⟨rfl, h⟩
  have HH := Lib.hid h
  clear h
  go_wp2
  exact bodyPost_ret (v := .tuple #[]) (by simp [results, Tryz.f118, go_sem]) rfl ⟨rfl, HH.out⟩

theorem Grow.row {k : IntKind} {E : TypeId} {w : World} {B : Nat} {v : Value} {xs : List Nat} (h : Grow k E w B v xs) (hne : xs ≠ []) : ∃ g cap, v = .slice (some ⟨g, 0, none⟩) xs.length cap ∧ B ≤ g ∧ Row k E w B g cap xs := by
  rcases h.2 with ⟨_, h0⟩ | ⟨g, cap, cur, rfl, hb, hg, hr⟩
  · exact absurd (List.eq_nil_of_length_eq_zero h0) hne
  · exact ⟨g, cap, rfl, hb, h.1, .inr ⟨g, cap, cur, rfl, hb, hg, hr⟩⟩
def NoTurn (w : World) (e : Ending) (w' : World) : Prop := e = .returned (.tuple #[]) ∧ w' = w
set_option maxRecDepth 100000 in
set_option maxHeartbeats 4000000 in
theorem stable_zero {p : Option Addr} {c cf : Nat} {cb : Array Value} {w : World} :
    Calls Tryz.prog 118 #[.slice p 0 c, .func (.func cf) #[] cb] w (NoTurn w) := by
  have H1 : Hid (Calls Tryz.prog 171 #[.slice p 0 c, .int .i64 0, .int .i64 0, .func (.func cf) #[] cb] w (NoTurn w)) := by
    show Calls _ _ _ _ _
    go_enter Tryz.func171, Tryz.ntmps171
    go_wp2
    go_loopw [8] (fun vi wr => vi = .int .i64 1 ∧ wr = w) (fun _ _ => 0)
    case atStart => exact ⟨by go_num, rfl⟩
    case round =>
      obtain ⟨rfl, rfl⟩ := hrel
      go_wp2
      exact bodyPost_ret (v := .tuple #[]) (by simp [results, Tryz.f171, go_sem]) rfl ⟨rfl, rfl⟩
  have H2 : Hid (Calls Tryz.prog 143 #[.slice p 0 c, .int .i64 0, .func (.func cf) #[] cb] w (NoTurn w)) := by
    show Calls _ _ _ _ _
    go_enter Tryz.func143, Tryz.ntmps143
    go_wp2
    go_loopw [7, 8] (fun va vb wr => va = .int .i64 0 ∧ vb = .int .i64 20 ∧ wr = w) (fun _ _ _ => 0)
    case atStart => exact ⟨rfl, rfl, rfl⟩
    case round =>
      obtain ⟨rfl, rfl, rfl⟩ := hrel
      go_wp2_with fail
      refine H1.out.mono ?_
      rintro e w2 ⟨rfl, rfl⟩
      go_wp2
      go_loopw [6] (fun vb wr => vb = .int .i64 20 ∧ wr = w2) (fun _ _ => 0)
      case atStart => exact ⟨rfl, rfl⟩
      case round =>
        obtain ⟨rfl, rfl⟩ := hrel
        go_wp2
        exact bodyPost_ret (v := .tuple #[]) (by simp [results, Tryz.f143, go_sem]) rfl ⟨rfl, rfl⟩
  go_enter Tryz.func118, Tryz.ntmps118
  go_wp2_with fail
  refine H2.out.mono ?_
  rintro e w2 ⟨rfl, rfl⟩
  go_wp2
  exact bodyPost_ret (v := .tuple #[]) (by simp [results, Tryz.f118, go_sem]) rfl ⟨rfl, rfl⟩

set_option maxRecDepth 100000 in
set_option maxHeartbeats 8000000 in
theorem rank_any {u : Value} {ps : List PP} {wz : World} (hu : PL wz u ps) (hsm : ps.length ≤ 512 → ∀ p ∈ ps, p.1.size ≤ 1000000 ∧ p.2.size ≤ 1000000) (hlen : ps.length < 20) :
    Calls Tryz.prog 60 #[u] wz (RankPost ps wz) := by
  have hent := enters_of Tryz.func119 (by kernel_rfl) rfl
  have hmf : ∀ (fn : Fn) (first cap : Array Value) (w : World), (Instr.makeFunc fn first cap).run Tryz.prog w = .ok (.func fn first cap) w := fun _ _ _ _ => rfl
  obtain ⟨i0, hi, hz0, hz1, hz2⟩ := info_parts info_int
  obtain ⟨n, hn⟩ : ∃ n, ps.length = n := ⟨_, rfl⟩
  obtain ⟨p1, c1, rfl⟩ : ∃ p c, u = .slice p n c := by obtain ⟨p, c, h, _⟩ := id hu; exact ⟨_, _, by rw [← hn]; exact h⟩
  rw [hn] at hlen
  have HU := Lib.hid hu
  have HSM := Lib.hid hsm
  have HENT := Lib.hid hent
  have HN := Lib.hid hn
  clear hu hsm hent hn
  go_enter Tryz.func60, Tryz.ntmps60
  go_wp2_with fail
  obtain ⟨w1, hw1⟩ : ∃ w1, wz.alloc (.cells #[.slice p1 n c1] 34) = w1 := ⟨_, rfl⟩
  rw [hw1]
  have HX1 : Hid (Boxes wz.heap.size [.cells #[.slice p1 n c1] 34] w1) := by rw [← hw1]; exact Boxes.one wz _
  have HB1 : Hid (Below wz.heap.size wz w1) := by rw [← hw1]; exact (Below.refl _ wz).alloc (Nat.le_refl _) _
  have hsz1 : w1.heap.size = wz.heap.size + 1 := by rw [← hw1]; simp
  clear hw1
  have hal1 := (Below.refl w1.heap.size w1).alloc (Nat.le_refl _) (.cells #[.slice p1 n c1] 34)
  have HAL := Lib.hid hal1
  clear hal1
  have hll := one_list (HU.out.after HB1.out (Nat.le_refl _))
  rw [hsz1] at hll
  have hck := checked_any hll (by simp) (small_one HSM.out)
  refine hck.mono ?_
  clear hll hck hsz1
  rintro e w ⟨rfl, hb2⟩
  have HBZ := Lib.hid (HB1.out.trans ((HAL.out.trans (hb2.mono HAL.out.size)).mono HB1.out.size))
  have HX2 := Lib.hid ((HX1.out.alloc (.cells #[.slice p1 n c1] 34)).below hb2 (HX1.out.alloc _).lt)
  clear hb2 HAL HB1 HX1
  obtain ⟨c, hc⟩ : ∃ c, chkL [ps] = c := ⟨_, rfl⟩
  rw [hc]
  by_cases h0 : c = 0
  rotate_left
  · have HC : Hid (chkL [ps] = c ∧ c ≠ 0) := ⟨hc, h0⟩
    have hz : (c != 0) = true := by rw [bne_iff_ne]; exact h0
    clear h0 hc
    go_wp2
    go_ret2
    exact ⟨HBZ.out, .inl ⟨by rw [HC.out.1]; exact HC.out.2, by rw [HC.out.1]; rfl⟩⟩
  have hz : (c != 0) = false := by rw [bne_eq_false_iff_eq]; exact h0
  have HC : Hid (chkL [ps] = 0) := by show _ = _; rw [hc, h0]
  have HOK : Hid (∀ p ∈ ps, okP p.1 p.2 = true) := (chkL_one HC.out).2
  have hcb := HX2.out.cell 0 0 (b := wz.heap.size) rfl rfl rfl
  have HCB := Lib.hid hcb
  have hblt : wz.heap.size < w.heap.size := World.block_lt_of_cell? _ _ hcb
  clear h0 hc
  go_wp2
  go_loopw [5, 15] (fun vo vi wr => ∃ k : Nat, vi = .int .i64 k ∧ k ≤ n ∧ Hid (Grow .i64 3 wr w.heap.size vo (List.range k)) ∧ Hid (Below w.heap.size w wr)) (fun _ vi _ => n - (intOf vi).toNat)
  case atStart => exact ⟨0, rfl, Nat.zero_le _, Grow.nil, Below.refl _ _⟩
  case round =>
    obtain ⟨k, rfl, hk, HO, HB⟩ := hrel
    obtain ⟨po, no, co, rfl⟩ : ∃ p n c, u5 = .slice p n c := by obtain ⟨q, c, h⟩ := HO.out.form; exact ⟨_, _, _, h⟩
    by_cases hlt : k < n
    · have hltz : (k : Int) < n := by omega
      have HLEN : Hid ((List.range k).length = k) := by show _ = _; simp
      have hm1 : k + 1 ≤ maxLen := by unfold maxLen; omega
      have hm2 : (k + 1) * 8 ≤ 140737488355328 := by omega
      have E1 : Hid ((k : Int) = (k : Nat)) := rfl
      skip
      have hown : wr.ownsRow w.heap.size 3 1 (.slice po no co) k ((List.range k).map fun x => Value.int .i64 (x : Nat)) := by
        have := HO.out; unfold Grow at this; rwa [HLEN.out] at this
      have hsz := HB.out.size
      have hownA := hown.alloc (.cells #[.int .i64 ((k : Int))] 3)
      have hm3 : w.heap.size ≤ (wr.alloc (.cells #[.int .i64 ((k : Int))] 3)).heap.size := by simp; omega
      go_wp2_with (at_builtin; go_loud (refine wpList_append_own _ rfl _ _ 82 rfl w.heap.size 3 i0 (.int .i64 0) 1 8 Tryz.underlying82 hi hz0 hz1 hz2 rfl (by decide) _ k _ rfl hownA ⟨wr.heap.size, 0, none⟩ 1 1 [.int .i64 ((k : Int))] rfl rfl (cell_one_new _ _ _) (by simp [Value.oneCell']) hm1 hm2 hm3 ?_); intro v' w1 hown1 hgrow1 _)
      have HG : Hid (Grow .i64 3 w1 w.heap.size v' (List.range k ++ [k])) := Grow.snoc HLEN.out E1.out hown1
      have HB1 : Hid (Below w.heap.size w w1) := (HB.out.alloc hsz _).grown hgrow1 hm3 (fun z hz => (World.ownsRow.lt hownA z hz).1)
      clear hown hownA hown1 hgrow1
      go_roundw
      case rel => exact ⟨k + 1, by go_num, by omega, by show Grow _ _ _ _ _ _; rw [List.range_succ]; exact HG.out, HB1⟩
      case measure => simp [intOf]; omega
    · obtain rfl : k = n := by omega
      rcases Nat.eq_zero_or_pos k with hk0 | hk0
      · subst hk0
        obtain ⟨q, cc, hv⟩ := HO.out.form
        simp only [List.range_zero, List.length_nil] at hv
        injection hv with v1 v2 v3
        subst v1 v2 v3
        have HRK : Hid (RankOf (rats ps) []) := by
          have : (rats ps).length = 0 := by rw [← HN.out]; simp [rats]
          exact ⟨by rw [this]; exact List.Perm.refl _, List.Pairwise.nil⟩
        have HNU : Hid (Nums .i64 wr (.slice po 0 co) []) := HO.out.nums
        go_wp2_with fail
        refine stable_zero.mono ?_
        rintro e w5 ⟨rfl, rfl⟩
        go_wp2
        go_ret2
        exact ⟨HBZ.out.trans (HB.out.mono HBZ.out.size), .inr ⟨HC.out, _, [], rfl, HRK.out, HNU.out⟩⟩
      · obtain ⟨g, cap, hv, hg, hrow⟩ := HO.out.row (by rw [Ne, List.range_eq_nil]; omega)
        rw [List.length_range] at hv
        injection hv with v1 v2 v3
        subst v1 v2 v3
        have HROW := Lib.hid hrow
        have hcmp : ∀ W, Keeps (fun b => b ≠ g) wr W → ∀ x y, x < no → y < no → Calls Tryz.prog 119 (#[.int .i64 x, .int .i64 y] ++ #[.pointer (some ⟨wz.heap.size, 0, none⟩)]) W (CmpOk (rats ps) x y W) := fun W hW x y hx hy => by
          have h1 : Below w.heap.size w W := HB.out.trans (hW.toBelow hg HB.out.size)
          exact rank1_any ((HU.out.after HBZ.out (Nat.le_refl _)).after h1 (Nat.le_refl _)) ((h1.cell (p := ⟨wz.heap.size, 0, none⟩) hblt).trans HCB.out) HOK.out HN.out hx hy
        have HST := Lib.hid (stable_any HENT.out hcmp hrow hk0 hlen)
        have HG := Lib.hid hg
        clear hcmp hrow hg hcb HO
        go_wp2_with fail
        refine HST.out.mono ?_
        rintro e w5 ⟨rfl, L, hL1, hL2, hL3, hL4⟩
        have HRK : Hid (RankOf (rats ps) L) := by
          have : (rats ps).length = no := by rw [← HN.out]; simp [rats]
          exact ⟨by rw [this]; exact hL1, hL2⟩
        have HLL : Hid (L.length = no) := by show _ = _; have := hL1.length_eq; simpa using this
        have HNU : Hid (Nums .i64 w5 (.slice (some ⟨g, 0, none⟩) no co) L) := by
          have := hL3.nums
          rw [HLL.out] at this
          exact this
        have HB5 : Hid (Below wz.heap.size wz w5) := HBZ.out.trans ((HB.out.trans (hL4.toBelow HG.out HB.out.size)).mono HBZ.out.size)
        clear hL1 hL2 hL3 hL4
        go_wp2
        go_ret2
        exact ⟨HB5.out, .inr ⟨HC.out, _, L, rfl, HRK.out, HNU.out⟩⟩
end Go.Proofs.YthbpadjhlkdpeaaGreatDoor
/- weight's Cover: how many of the greatest elements have a sum (up to 19 elements). -/
namespace Go.Proofs.YthbpadjhlkdpeaaGreatDoor
open Go.RowKit Go.Shelf
attribute [local go_sem ↓] Go.wp_at_zero Go.wp_at_succ

/-- What Cover answers. -/
def CoverPost (ps : List PP) (s t : ByteArray) (w : World) (e : Ending) (w' : World) : Prop :=
  Below w.heap.size w w' ∧ ((chkL [ps] ≠ 0 ∧ e = .returned (.tuple #[.int .i64 0, .int .i64 (chkL [ps])])) ∨ (chkL [ps] = 0 ∧ okP s t = false ∧ e = .returned (.tuple #[.int .i64 0, .int .i64 2])) ∨
    (chkL [ps] = 0 ∧ okP s t = true ∧ ∃ L, RankOf (rats ps) L ∧ ∃ (m : Nat) (c : Int), coverA (pick (rats ps) L) 0 (ratP s t) 0 = (m, c) ∧ e = .returned (.tuple #[.int .i64 m, .int .i64 c])))
theorem pick_drop {qs : List Rat} {L : List Nat} {k i : Nat} (hk : k < L.length) (hi : L.getD k 0 = i) : pick qs (L.drop k) = qs.getD i 0 :: pick qs (L.drop (k + 1)) := by
  rw [List.drop_eq_getElem_cons hk]
  have : L[k] = i := by rw [← hi]; simp [List.getD, hk]
  rw [this]
  rfl
theorem Nums.at {k : IntKind} {w : World} {p : Option Addr} {n cap j : Nat} {xs : List Nat} (h : Nums k w (.slice p n cap) xs) (hn : xs.length = n) (hj : j < n) : ∃ b off, p = some ⟨b, off, none⟩ ∧ b < w.heap.size ∧ w.cell? ⟨b, off + j, none⟩ = some (.int k (xs.getD j 0 : Nat)) := by
  obtain ⟨p', c', hv, _, _, h4⟩ := h
  injection hv with e1 e2 e3
  subst e1
  obtain ⟨b, off, rfl, hb, hat⟩ := h4 (List.ne_nil_of_length_pos (by omega))
  exact ⟨b, off, rfl, hb, hat.getD (by omega) rfl⟩

theorem add_ans {a b : Rat} {s t u v : ByteArray} (ha : IsP a s t) (hb : IsP b u v) (w : World) (hT : Tabs w) :
    Calls Tryz.prog 35 #[pV s t, pV u v] w (PartPost (Ans (a + b)) w) := by
  refine (add_rat s t u v w ha.le.1 ha.le.2 hb.le.1 hb.le.2 hT).mono ?_
  rintro e w' ⟨x, y, n, rfl, h, hB⟩
  have h1 := h.both ha.ok hb.ok
  rw [ha.rat, hb.rat] at h1
  exact ⟨x, y, n, rfl, h1, hB⟩

set_option maxRecDepth 100000 in
set_option maxHeartbeats 8000000 in
theorem cover_any {u : Value} {ps : List PP} {s t : ByteArray} {w : World} (hu : PL w u ps) (hsm : ps.length ≤ 512 → ∀ p ∈ ps, p.1.size ≤ 1000000 ∧ p.2.size ≤ 1000000) (hs : s.size ≤ 1000000) (ht : t.size ≤ 1000000) (hlen : ps.length < 20) (hT : Tabs w) :
    Calls Tryz.prog 61 #[u, pV s t] w (CoverPost ps s t w) := by
  obtain ⟨n, hn⟩ : ∃ n, ps.length = n := ⟨_, rfl⟩
  obtain ⟨p1, c1, rfl⟩ : ∃ p c, u = .slice p n c := by obtain ⟨p, c, h, _⟩ := id hu; exact ⟨_, _, by rw [← hn]; exact h⟩
  rw [hn] at hlen
  have HU := Lib.hid hu
  have HSM := Lib.hid hsm
  have HN := Lib.hid hn
  have HZ := Lib.hid (And.intro hs ht)
  have HT := Lib.hid hT
  clear hu hsm hn hs ht hT
  obtain ⟨c, hc⟩ : ∃ c, chkL [ps] = c := ⟨_, rfl⟩
  by_cases h0 : c = 0
  rotate_left
  · have HC : Hid (chkL [ps] = c ∧ c ≠ 0) := ⟨hc, h0⟩
    have hz : (c != 0) = true := by rw [bne_iff_ne]; exact h0
    clear h0 hc
    skip
    go_enter Tryz.func61, Tryz.ntmps61
    go_wp2_with fail
    obtain ⟨w1, hw1⟩ : ∃ w1, w.alloc (pObj s t) = w1 := ⟨_, rfl⟩
    rw [hw1]
    have HA1 : Hid (Ats [(w.heap.size, s, t)] w1) := by rw [← hw1]; exact (Ats.nil w).push s t
    have HB1 : Hid (Below w.heap.size w w1) := by rw [← hw1]; exact (Below.refl _ w).alloc (Nat.le_refl _) _
    have hsz1 : w1.heap.size = w.heap.size + 1 := by rw [← hw1]; simp
    clear hw1
    have hal1 := (Below.refl w1.heap.size w1).alloc (Nat.le_refl _) (.cells #[.slice p1 n c1] 34)
    have HAL := Lib.hid hal1
    clear hal1
    have hll := one_list (HU.out.after HB1.out (Nat.le_refl _))
    rw [hsz1] at hll
    have hck := checked_any hll (by simp) (small_one HSM.out)
    refine hck.mono ?_
    clear hll hck hsz1
    rintro e w2 ⟨rfl, hb2⟩
    have HB2 := Lib.hid (HB1.out.trans ((HAL.out.trans (hb2.mono HAL.out.size)).mono HB1.out.size))
    have HA2 := Lib.hid ((HA1.out.after HAL.out (Nat.le_refl _)).after hb2 (Nat.le_refl _))
    clear hb2 HAL HB1 HA1
    rw [HC.out.1]
    go_wp2
    go_ret2
    exact ⟨HB2.out, .inl ⟨by rw [HC.out.1]; exact HC.out.2, by rw [HC.out.1]; rfl⟩⟩
  subst h0
  have HC := Lib.hid hc
  have HOK : Hid (∀ p ∈ ps, okP p.1 p.2 = true) := (chkL_one hc).2
  clear hc
  cases h1 : okP s t
  · have HO := Lib.hid h1
    have H1 := Lib.hid (okE_no h1)
    clear h1
    skip
    go_enter Tryz.func61, Tryz.ntmps61
    go_wp2_with fail
    obtain ⟨w1, hw1⟩ : ∃ w1, w.alloc (pObj s t) = w1 := ⟨_, rfl⟩
    rw [hw1]
    have HA1 : Hid (Ats [(w.heap.size, s, t)] w1) := by rw [← hw1]; exact (Ats.nil w).push s t
    have HB1 : Hid (Below w.heap.size w w1) := by rw [← hw1]; exact (Below.refl _ w).alloc (Nat.le_refl _) _
    have hsz1 : w1.heap.size = w.heap.size + 1 := by rw [← hw1]; simp
    clear hw1
    have hal1 := (Below.refl w1.heap.size w1).alloc (Nat.le_refl _) (.cells #[.slice p1 n c1] 34)
    have HAL := Lib.hid hal1
    clear hal1
    have hll := one_list (HU.out.after HB1.out (Nat.le_refl _))
    rw [hsz1] at hll
    have hck := checked_any hll (by simp) (small_one HSM.out)
    refine hck.mono ?_
    clear hll hck hsz1
    rintro e w2 ⟨rfl, hb2⟩
    have HB2 := Lib.hid (HB1.out.trans ((HAL.out.trans (hb2.mono HAL.out.size)).mono HB1.out.size))
    have HA2 := Lib.hid ((HA1.out.after HAL.out (Nat.le_refl _)).after hb2 (Nat.le_refl _))
    clear hb2 HAL HB1 HA1
    rw [HC.out]
    have m0 := HA2.out.c0 0 rfl
    have m1 := HA2.out.c1 0 rfl
    go_wp2_with fail
    clear m0 m1
    refine (check_any s t _ HZ.out.1 HZ.out.2).mono ?_
    rintro e w3 ⟨rfl, hb3⟩
    rw [H1.out]
    have HB3 := Lib.hid (HB2.out.trans (hb3.mono HB2.out.size))
    clear hb3
    go_wp2
    go_ret2
    exact ⟨HB3.out, .inr (.inl ⟨HC.out, HO.out, rfl⟩)⟩
  have HO := Lib.hid h1
  have HP := Lib.hid (isP_of_ok h1)
  have H1 := Lib.hid (okE_yes h1)
  obtain ⟨P, hP⟩ : ∃ P, ratP s t = P := ⟨_, rfl⟩
  rw [hP] at HP
  have HPE := Lib.hid hP
  clear h1 hP
  skip
  go_enter Tryz.func61, Tryz.ntmps61
  go_wp2_with fail
  obtain ⟨w1, hw1⟩ : ∃ w1, w.alloc (pObj s t) = w1 := ⟨_, rfl⟩
  rw [hw1]
  have HA1 : Hid (Ats [(w.heap.size, s, t)] w1) := by rw [← hw1]; exact (Ats.nil w).push s t
  have HB1 : Hid (Below w.heap.size w w1) := by rw [← hw1]; exact (Below.refl _ w).alloc (Nat.le_refl _) _
  have hsz1 : w1.heap.size = w.heap.size + 1 := by rw [← hw1]; simp
  clear hw1
  have hal1 := (Below.refl w1.heap.size w1).alloc (Nat.le_refl _) (.cells #[.slice p1 n c1] 34)
  have HAL := Lib.hid hal1
  clear hal1
  have hll := one_list (HU.out.after HB1.out (Nat.le_refl _))
  rw [hsz1] at hll
  have hck := checked_any hll (by simp) (small_one HSM.out)
  refine hck.mono ?_
  clear hll hck hsz1
  rintro e w2 ⟨rfl, hb2⟩
  have HB2 := Lib.hid (HB1.out.trans ((HAL.out.trans (hb2.mono HAL.out.size)).mono HB1.out.size))
  have HA2 := Lib.hid ((HA1.out.after HAL.out (Nat.le_refl _)).after hb2 (Nat.le_refl _))
  clear hb2 HAL HB1 HA1
  rw [HC.out]
  have m0 := HA2.out.c0 0 rfl
  have m1 := HA2.out.c1 0 rfl
  go_wp2_with fail
  clear m0 m1
  refine (check_any s t _ HZ.out.1 HZ.out.2).mono ?_
  rintro e w3 ⟨rfl, hb3⟩
  rw [H1.out]
  have HB3 := Lib.hid (HB2.out.trans (hb3.mono HB2.out.size))
  have HA3 := Lib.hid (HA2.out.after hb3 (Nat.le_refl _))
  clear hb3 HB2 HA2
  go_wp2_with fail
  refine (rank_any (HU.out.after HB3.out (Nat.le_refl _)) HSM.out (by rw [HN.out]; exact hlen)).mono ?_
  rintro e w4 ⟨hb4, hE⟩
  have HB4 := Lib.hid (HB3.out.trans (hb4.mono HB3.out.size))
  have HA4 := Lib.hid (HA3.out.after hb4 (Nat.le_refl _))
  clear hb4 HB3 HA3
  rcases hE with ⟨h, _⟩ | ⟨_, v, L, rfl, hL, hv⟩
  · exact absurd HC.out h
  have hLL : L.length = n := by
    have := hL.1.length_eq
    rw [List.length_range] at this
    rw [this, ← HN.out]; simp [rats]
  have hLM : ∀ i ∈ L, i < n := fun i hi => by
    have := (hL.1.mem_iff (a := i)).1 hi
    rw [List.mem_range] at this
    rw [← HN.out]; simpa [rats] using this
  obtain ⟨p2, c2, rfl⟩ : ∃ p c, v = .slice p n c := by obtain ⟨p, c, h, _⟩ := id hv; exact ⟨_, _, by rw [← hLL]; exact h⟩
  have HL := Lib.hid hL
  have HV := Lib.hid hv
  have HLL := Lib.hid hLL
  have HLM := Lib.hid hLM
  clear hL hv hLL hLM
  go_wp2_with fail
  obtain ⟨Pb, hPb⟩ : ∃ b, w.heap.size = b := ⟨_, rfl⟩
  obtain ⟨Sb, hSb⟩ : ∃ b, w4.heap.size = b := ⟨_, rfl⟩
  have hPS : Pb < Sb := by have := HA4.out.lt 0 rfl; rw [← hPb, ← hSb]; exact this
  obtain ⟨W, hW⟩ : ∃ W, w4.alloc (pObj ⟨#[48]⟩ ⟨#[49]⟩) = W := ⟨_, rfl⟩
  have HAW : Hid (Ats [(Sb, ⟨#[48]⟩, ⟨#[49]⟩), (Pb, s, t)] W) := by
    rw [← hW, ← hSb, ← hPb]; exact HA4.out.push _ _
  have HBW : Hid (Below Sb w4 W) := by rw [← hW, ← hSb]; exact (Below.refl _ w4).alloc (Nat.le_refl _) _
  have HB4' : Hid (Below w.heap.size w w4 ∧ w.heap.size ≤ Sb ∧ w4.heap.size = Sb) := ⟨HB4.out, by rw [hPb]; omega, hSb⟩
  rw [hW, hPb, hSb]
  have HST : Hid (coverA (pick (rats ps) L) 0 P 0 = coverA (pick (rats ps) (L.drop 0)) 0 P 0) := rfl
  clear hW hPb hSb HA4 HB4
  go_loopw [5, 32] (fun ve vi wr => ∃ (k : Nat) (a : Rat) (x y : ByteArray), vi = .int .i64 k ∧ k ≤ n ∧ ve = .int .i64 0 ∧ Hid (IsP a x y) ∧ Hid (Ats [(Sb, x, y), (Pb, s, t)] wr) ∧ Hid (Below Sb w4 wr) ∧
      Hid (coverA (pick (rats ps) L) 0 P 0 = coverA (pick (rats ps) (L.drop k)) a P k)) (fun _ vi _ => n - (intOf vi).toNat)
  case atStart => exact ⟨0, 0, _, _, rfl, Nat.zero_le _, rfl, isP_zero, HAW, HBW, HST⟩
  case round =>
    clear HAW HBW HST
    obtain ⟨k, a, x, y, rfl, hk, rfl, HX, HA, HB, HS⟩ := hrel
    have m0 := HA.out.c0 0 rfl
    have m1 := HA.out.c1 0 rfl
    have m2 := HA.out.c0 1 rfl
    have m3 := HA.out.c1 1 rfl
    have HBZ : Hid (Below w.heap.size w wr) := HB4'.out.1.trans (HB.out.mono HB4'.out.2.1)
    by_cases hlt : k < n
    · have hltz : (k : Int) < n := by omega
      obtain ⟨rb, ro, rfl, hrb, cr⟩ := HV.out.at HLL.out hlt
      obtain ⟨i, hi⟩ : ∃ i, L.getD k 0 = i := ⟨_, rfl⟩
      rw [hi] at cr
      have hin : i < n := HLM.out i (by rw [← hi]; simp [List.getD, HLL.out, hlt])
      have hr := HB4'.out.2.2
      have c0 := (HB.out.cell (p := ⟨rb, ro + k, none⟩) (by rw [← hr]; exact hrb)).trans cr
      have HPD := Lib.hid (pick_drop (qs := rats ps) (by rw [HLL.out]; exact hlt) hi)
      obtain ⟨b, o, sx, tx, _, _, rfl, e1, _, hcs⟩ := HU.out.two HN.out hin hin
      have q1 : IsP (ratP sx tx) sx tx := isP_of_ok (HOK.out (sx, tx) (List.mem_of_getElem? e1))
      have HRA : Hid ((rats ps).getD i 0 = ratP sx tx) := rats_at e1
      obtain ⟨q, hq⟩ : ∃ q, ratP sx tx = q := ⟨_, rfl⟩
      rw [hq] at q1
      have HQ := Lib.hid q1
      have HQE := Lib.hid hq
      have hi0 : (0 : Int) ≤ i := by omega
      have hi1 : (i : Int) < n := by omega
      have hS : ∀ w', Below w.heap.size w w' → w'.cell? ⟨b, o + i * 2, none⟩ = some (.string sx) ∧ w'.cell? ⟨b, o + i * 2 + 1, none⟩ = some (.string tx) := fun w' h => ⟨(hcs w' h).1, (hcs w' h).2.1⟩
      have HKS := Lib.hid hS
      obtain ⟨r, hrr⟩ : ∃ r, sgnR a P = r := ⟨_, rfl⟩
      have HR := Lib.hid hrr
      clear hi cr hr e1 hcs q1 hq hS
      by_cases hp : P ≤ a
      · have hr0 : (0 : Int) ≤ r := by
          rw [← hrr]; unfold sgnR
          rw [if_neg (by grind)]
          split <;> decide
        have hrd : decide (0 ≤ r) = true := decide_eq_true hr0
        have HCV : Hid (coverA (pick (rats ps) L) 0 P 0 = (k, 0)) := by
          show _ = _
          rw [HS.out, HPD.out, coverA, if_pos hp]
        clear hp hrr
        go_wp2_with fail
        refine (cmp_to HX.out HP.out HR.out _).mono ?_
        rintro e w5 ⟨rfl, hb⟩
        have HB5 := Lib.hid (HBZ.out.trans (hb.mono HBZ.out.size))
        clear hb m0 m1 m2 m3
        go_wp2
        go_ret2
        exact ⟨HB5.out, .inr (.inr ⟨HC.out, HO.out, L, HL.out, k, 0, by rw [HPE.out]; exact HCV.out, rfl⟩)⟩
      · have hr0 : ¬ (0 : Int) ≤ r := by
          rw [← hrr]; unfold sgnR
          rw [if_pos (by grind)]
          decide
        have hrd : decide (0 ≤ r) = false := decide_eq_false hr0
        have HCV : Hid (coverA (pick (rats ps) L) 0 P 0 = if Fits (a + q) then coverA (pick (rats ps) (L.drop (k + 1))) (a + q) P (k + 1) else (0, 4)) := by
          show _ = _
          rw [HS.out, HPD.out, coverA, if_neg hp, HRA.out, HQE.out]
        clear hp hrr
        go_wp2_with fail
        refine (cmp_to HX.out HP.out HR.out _).mono ?_
        rintro e w5 ⟨rfl, hb⟩
        have HB5 := Lib.hid (HB.out.trans (hb.mono (by have := HB.out.size; have := HB4'.out.2.2; omega)))
        have HA5 := Lib.hid (HA.out.after hb (Nat.le_refl _))
        have HBZ5 := Lib.hid (HBZ.out.trans (hb.mono HBZ.out.size))
        clear hb m0 m1 m2 m3 HA HB c0
        have m0 := HA5.out.c0 0 rfl
        have m1 := HA5.out.c1 0 rfl
        obtain ⟨k0, k1⟩ := HKS.out w5 HBZ5.out
        go_wp2_with fail
        have hS0 : w5.drew.cell? ⟨b, o + i * 2, none⟩ = some (.string sx) ∧ w5.drew.cell? ⟨b, o + i * 2 + 1, none⟩ = some (.string tx) := ⟨k0, k1⟩
        refine steps_plain [(true, 1), (true, 2), (true, 3), (true, 4), (false, 0), (false, 5), (true, 6), (true, 7), (true, 8), (false, 9), (false, 10)] (fun w' => w'.cell? ⟨b, o + i * 2, none⟩ = some (.string sx) ∧ w'.cell? ⟨b, o + i * 2 + 1, none⟩ = some (.string tx)) (fun _ => false)
          (by kernel_rfl) (by kernel_rfl) (fun _ _ => rfl) (fun _ _ o _ _ h => by cases o <;> exact h) hS0 ?_
        iterate 4
          refine steps_read _ rfl rfl (fun w' hS => by obtain ⟨s1, s2⟩ := hS; go_simp; rfl) ?_
          simp only [Act.put, List.setIfInBounds_toArray, List.set_cons_zero, List.set_cons_succ]
        refine steps_write rfl rfl fun K hK => ?_
        go_simp
        refine hK _ _ (.inr hS0) ?_
        clear hK K
        refine steps_write rfl rfl fun K hK => ?_
        go_simp
        go_at_call 35
        refine (add_ans HX.out HQ.out _ (HT.out.below HBZ5.out.drew (Nat.le_refl _))).mono ?_
        rintro e w6 ⟨x', y', n', rfl, hR, hb⟩
        have HRR := Lib.hid hR
        have HX6 : Hid (Below w5.heap.size w5 w6) := ((Below.refl w5.heap.size w5).drew).trans hb
        have HA6 := Lib.hid (HA5.out.after HX6.out (Nat.le_refl _))
        have HBZ6 : Hid (Below w.heap.size w w6) := HBZ5.out.trans (HX6.out.mono HBZ5.out.size)
        have HK6 := Lib.hid (HKS.out w6 HBZ6.out)
        have HK8 := Lib.hid (HKS.out _ ((HBZ6.out.setCell (p := ⟨Sb, 0, none⟩) HB4'.out.2.1 (.string x')).setCell (p := ⟨Sb, 1, none⟩) HB4'.out.2.1 (.string y')))
        have r0 := HA6.out.c0 0 rfl
        have r1 := HA6.out.c1 0 rfl
        have f0 := HA6.out.frozen 0 0 rfl
        have f1 := HA6.out.frozen 0 1 rfl
        refine hK _ _ (.inr HK6.out) ?_
        clear hK K hb hR hS0
        iterate 3
          refine steps_read _ rfl rfl (fun w' hS => by go_simp; rfl) ?_
          simp only [Act.put, List.setIfInBounds_toArray, List.set_cons_zero, List.set_cons_succ]
        refine steps_write rfl rfl fun K hK => ?_
        go_simp
        refine hK _ _ (.inr HK8.out) ?_
        clear hK K
        refine steps_write rfl rfl fun K hK => ?_
        go_simp
        refine hK _ _ (.inr HK8.out) ?_
        clear hK K
        refine steps_end ?_
        clear HK6 HK8
        have HA7 : Hid (Ats [(Sb, x', y'), (Pb, s, t)] ((w6.setCell ⟨Sb, 0, none⟩ (.string x')).setCell ⟨Sb, 1, none⟩ (.string y'))) := by
          refine HA6.out.tail.put (HA6.out 0 _ rfl) (fun i p hp => ?_) x' y'
          match i, hp with
          | 0, hp => obtain rfl := Option.some.inj hp; show Pb ≠ Sb; omega
          | i + 1, hp => simp at hp
        have HB7 : Hid (Below Sb w4 ((w6.setCell ⟨Sb, 0, none⟩ (.string x')).setCell ⟨Sb, 1, none⟩ (.string y'))) :=
          ((HB5.out.trans (HX6.out.mono (by have := HB5.out.size; have := HB4'.out.2.2; omega))).setCell (p := ⟨Sb, 0, none⟩) (Nat.le_refl _) _).setCell (p := ⟨Sb, 1, none⟩) (Nat.le_refl _) _
        have HBZ7 : Hid (Below w.heap.size w ((w6.setCell ⟨Sb, 0, none⟩ (.string x')).setCell ⟨Sb, 1, none⟩ (.string y'))) :=
          (HBZ6.out.setCell (p := ⟨Sb, 0, none⟩) HB4'.out.2.1 _).setCell (p := ⟨Sb, 1, none⟩) HB4'.out.2.1 _
        clear m0 m1 k0 k1 r0 r1 f0 f1
        rcases HRR.out with ⟨h1, rfl⟩ | ⟨h1, h2, h3, rfl⟩
        · have HX7 := Lib.hid h1
          have HS7 : Hid (coverA (pick (rats ps) L) 0 P 0 = coverA (pick (rats ps) (L.drop (k + 1))) (a + q) P (k + 1)) := by
            show _ = _
            rw [HCV.out, if_pos h1.fits]
          clear h1 HRR
          go_wp2
          go_roundw
          case rel => exact ⟨k + 1, _, _, _, by go_num, by omega, rfl, HX7, HA7, HB7, HS7⟩
          case measure => simp [intOf]; omega
        · have HCV2 : Hid (coverA (pick (rats ps) L) 0 P 0 = (0, 4)) := by
            show _ = _
            rw [HCV.out, if_neg h1]
          clear h1 h2 h3 HRR
          go_wp2
          go_ret2
          exact ⟨HBZ7.out, .inr (.inr ⟨HC.out, HO.out, L, HL.out, 0, 4, by rw [HPE.out]; exact HCV2.out, rfl⟩)⟩
    · obtain rfl : k = n := by omega
      have HSN : Hid (coverA (pick (rats ps) L) 0 P 0 = if a < P then (0, 7) else (k, 0)) := by
        show _ = _
        rw [HS.out, List.drop_of_length_le (by rw [HLL.out]; exact Nat.le_refl _)]; rfl
      obtain ⟨r, hrr⟩ : ∃ r, sgnR a P = r := ⟨_, rfl⟩
      have HR := Lib.hid hrr
      by_cases hp : a < P
      · have hr0 : r < 0 := by rw [← hrr]; unfold sgnR; rw [if_pos hp]; decide
        have hrd : decide (r < 0) = true := decide_eq_true hr0
        have HCV : Hid (coverA (pick (rats ps) L) 0 P 0 = (0, 7)) := by show _ = _; rw [HSN.out, if_pos hp]
        clear hp hrr
        go_wp2_with fail
        refine (cmp_to HX.out HP.out HR.out _).mono ?_
        rintro e w5 ⟨rfl, hb⟩
        have HB5 := Lib.hid (HBZ.out.trans (hb.mono HBZ.out.size))
        clear hb m0 m1 m2 m3
        go_wp2
        go_ret2
        exact ⟨HB5.out, .inr (.inr ⟨HC.out, HO.out, L, HL.out, 0, 7, by rw [HPE.out]; exact HCV.out, rfl⟩)⟩
      · have hr0 : ¬ r < 0 := by rw [← hrr]; unfold sgnR; rw [if_neg hp]; split <;> decide
        have hrd : decide (r < 0) = false := decide_eq_false hr0
        have HCV : Hid (coverA (pick (rats ps) L) 0 P 0 = (k, 0)) := by show _ = _; rw [HSN.out, if_neg hp]
        clear hp hrr
        go_wp2_with fail
        refine (cmp_to HX.out HP.out HR.out _).mono ?_
        rintro e w5 ⟨rfl, hb⟩
        have HB5 := Lib.hid (HBZ.out.trans (hb.mono HBZ.out.size))
        clear hb m0 m1 m2 m3
        go_wp2
        go_ret2
        exact ⟨HB5.out, .inr (.inr ⟨HC.out, HO.out, L, HL.out, k, 0, by rw [HPE.out]; exact HCV.out, rfl⟩)⟩
end Go.Proofs.YthbpadjhlkdpeaaGreatDoor
