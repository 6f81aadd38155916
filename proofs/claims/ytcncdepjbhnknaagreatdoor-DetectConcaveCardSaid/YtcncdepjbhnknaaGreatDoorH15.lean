/- The parts StepsF, StepsT, DLeast, Contains, DShort, Pairs of a proof, put together by program (merge6.py). -/
import Derived.Test.YtcncdepjbhnknaaGreatDoorH12
import Derived.OrdersIn
import Derived.Test.YtcncdepjbhnknaaGreatDoorH14
import Derived.Test.YtcncdepjbhnknaaGreatDoorH08
import Derived.Test.YtcncdepjbhnknaaGreatDoorH03
import Derived.Test.YtcncdepjbhnknaaGreatDoorH11
set_option linter.unusedVariables false
set_option linter.unusedSimpArgs false
/- Steps' law inside a fence: for a region that draws its order and yields to the body of a range over a function. -/
namespace Go.Proofs.YtcncdepjbhnknaaGreatDoor
open Go.RowKit

section
variable {F : Fence} {n : Nat} {P : Program} {ops : Array Oper} {Q : Exit → Act → World → Prop} {md : Region.Mode} {S : World → Prop} {bar : Nat → Bool}

def YieldsIfF (P : Program) (ops : Array Oper) (S : World → Prop) (o : Oper) (v : Value) (a : Act) : Prop := YieldsIf P ops S o v a ∧ ∀ w, o.about P w a.eval = none
theorem YieldsIfF.wpOpIn {i : Nat} {o : Oper} {v : Value} {a : Act} (hro : F.round = none) (hi : ops[i]? = some o) (hy : YieldsIfF P ops S o v a)
    {K : Act → World → Prop} {w : World} (hS : S w) (h : K (a.put o.dst v) w) : wpOpIn F n P ops Q i K a w := by
  unfold Go.wpOpIn
  simp only [hi]
  have hab : ∀ f, o.about P w a.eval = some f → F.fn f := fun f hf => by rw [hy.2 w] at hf; cases hf
  rcases hy.1 with ⟨hw, hv⟩ | ⟨hw, rfl⟩
  · simp only [hw, if_true, Oper.wpIn, hro, Oper.semAt_none, hv w hS, Oper.uponIn]; exact ⟨hab, h⟩
  · simp only [hw, Bool.false_eq_true, if_false]; exact ⟨hab, h⟩
theorem YieldsIfF.of_same {o : Oper} {v : Value} {a a' : Act} (hy : YieldsIfF P ops S o v a) (he : execOp a'.eval o = execOp a.eval o)
    (hw : Region.wanted o (yielded ops a'.tmps) = Region.wanted o (yielded ops a.tmps)) (hb : ∀ w, o.about P w a'.eval = o.about P w a.eval) : YieldsIfF P ops S o v a' :=
  ⟨hy.1.of_same he hw, fun w => by rw [hb w]; exact hy.2 w⟩
theorem wpOpIn_putIf {j : Nat} {oi oj : Oper} {v : Value} (hro : F.round = none) (hj : ops[j]? = some oj) (hap : oi.apart ops oj = true)
    (hsi : ∀ cs b, oi.op ≠ .select cs b) (hsj : ∀ cs b, oj.op ≠ .select cs b)
    (hQ : ∀ c a w, Q (.panic c) (a.put oi.dst v) w → Q (.panic c) a w) {K : Act → World → Prop} {a : Act} {w : World}
    (hy : YieldsIfF P ops S oi v a) (h : wpOpIn F n P ops Q j K (a.put oi.dst v) w) :
    wpOpIn F n P ops Q j (fun a' w' => YieldsIfF P ops S oi v a' ∧ K (a'.put oi.dst v) w') a w := by
  obtain ⟨h1, h2, h3⟩ := Oper.apart_spec hap
  have keep : ∀ (a : Act), YieldsIfF P ops S oi v a → ∀ u, YieldsIfF P ops S oi v (a.put oj.dst u) := fun a hy u =>
    hy.of_same (execOp_put oi hsi a oj.dst u h3) (wanted_put oi a oj.dst u h3) (fun w => about_put oi w a oj.dst u h3)
  have keepD : ∀ d, YieldsIfF P ops S oi v { a with defers := d :: a.defers } := fun d => hy.of_same rfl rfl (fun _ => rfl)
  unfold wpOpIn at *
  simp only [hj] at *
  rw [wanted_put oj a oi.dst v h1, about_put oj w a oi.dst v h1] at h
  split
  · rename_i hw
    simp only [hw, if_true] at h
    unfold Oper.wpIn at *
    rw [about_put oj w a oi.dst v h1] at h
    refine ⟨h.1, ?_⟩
    have h := h.2
    rw [hro, Oper.semAt_none, execOp_put oj hsj a oi.dst v h1] at h
    rw [hro, Oper.semAt_none]
    generalize (execOp a.eval oj).run P w = r at *
    cases r with
    | ok x w' =>
      cases x <;> simp only [Oper.uponIn] at h ⊢
      case value u => exact ⟨keep a hy u, by rw [← Act.put_comm a v u h2]; exact h⟩
      case skip => exact ⟨keep a hy _, by rw [← Act.put_comm a v undef h2]; exact h⟩
      case defer d =>
        refine ⟨keep _ (keepD d) _, ?_⟩
        rw [← Act.put_comm _ v undef h2, ← Act.put_defers]
        exact h
      case enter f args =>
        refine ⟨h.1, CallsIn.mono h.2 fun e w'' he => ?_⟩
        cases e with
        | returned u => exact ⟨keep a hy u, by rw [← Act.put_comm a v u h2]; exact he⟩
        | panicked c => exact hQ _ _ _ he
        | outgrown => exact he
      case row row args => exact ⟨h.1, RowsIn.mono h.2 fun u w'' he => ⟨keep a hy u, by rw [← Act.put_comm a v u h2]; exact he⟩⟩
      case round l f tmps assign body =>
        refine ⟨h.1, RoundIn.mono h.2 fun e w'' he => ?_⟩
        cases e with
        | returned u => exact ⟨keep a hy u, by rw [← Act.put_comm a v u h2]; exact he⟩
        | panicked c => exact hQ _ _ _ he
        | outgrown => exact he
    | halt x w' =>
      cases x <;> simp only [Oper.uponIn] at h ⊢
      case panic u => exact hQ _ _ _ h
  · rename_i hw
    simp only [hw] at h
    exact ⟨h.1, keep a hy _, by rw [← Act.put_comm a v undef h2]; exact h.2⟩

/-- Behind which operations one waits, through others. -/
def reachB (md : Region.Mode) (ops : Array Oper) : Nat → Nat → Nat → Bool
  | 0, _, _ => false
  | f + 1, j, i => Region.waitsFor md ops j i || (List.range ops.size).any fun m => Region.waitsFor md ops j m && reachB md ops f m i
/-- Whatever was listed waited for nothing that was not. -/
def Closed (md : Region.Mode) (ops : Array Oper) (listed : Array Bool) : Prop := ∀ j m, listed.getD j true = true → Region.waitsFor md ops j m = true → listed.getD m true = true
theorem lt_of_waits {j m : Nat} (h : Region.waitsFor md ops j m = true) : j < ops.size := by
  obtain ⟨oj, hoj, _⟩ := Region.waitsFor_spec h
  exact (Array.getElem?_eq_some_iff.1 hoj).1
theorem reach_unlisted {listed : Array Bool} (hc : Closed md ops listed) {i : Nat} (hi : listed.getD i true = false) : ∀ (f j : Nat), reachB md ops f j i = true → listed.getD j true = false ∧ j ∉ Region.ready md ops listed
  | 0, _, h => by cases h
  | f + 1, j, h => by
    have key : ∀ m, Region.waitsFor md ops j m = true → listed.getD m true = false → listed.getD j true = false ∧ j ∉ Region.ready md ops listed := fun m hw hm => by
      refine ⟨?_, fun hj => ?_⟩
      · cases hl : listed.getD j true with
        | false => rfl
        | true => rw [hc j m hl hw] at hm; cases hm
      · obtain ⟨oj, hoj, e, he, hb, hon⟩ := Region.waitsFor_spec hw
        obtain ⟨_, oj', hoj', hall⟩ := mem_ready.1 hj
        have : oj' = oj := Option.some.inj (hoj'.symm.trans hoj)
        subst this
        have h1 := hall e he hb
        rw [hon] at h1
        rcases Nat.lt_or_ge m listed.size with h' | h'
        · simp [h'] at hm h1; rw [hm] at h1; cases h1
        · simp [Array.getElem?_eq_none h'] at h1 hm
    unfold reachB at h
    rw [Bool.or_eq_true] at h
    rcases h with h | h
    · exact key i h hi
    · obtain ⟨m, _, hm⟩ := List.any_eq_true.1 h
      rw [Bool.and_eq_true] at hm
      exact key m hm.1 (reach_unlisted hc hi f m hm.2).1
theorem Closed.step {listed : Array Bool} (hc : Closed md ops listed) {j : Nat} (hj : j ∈ Region.ready md ops listed) : Closed md ops (listed.setIfInBounds j true) := by
  intro k m hk hw
  have up : ∀ m, listed.getD m true = true → (listed.setIfInBounds j true).getD m true = true := fun m hm => by
    by_cases e : j = m
    · subst e
      rcases Nat.lt_or_ge j listed.size with h' | h'
      · simp [h']
      · simp [h'] 
    · rw [getD_set_ne true e]; exact hm
  by_cases e : j = k
  · subst e
    obtain ⟨oj, hoj, x, hx, hb, hon⟩ := Region.waitsFor_spec hw
    obtain ⟨_, oj', hoj', hall⟩ := mem_ready.1 hj
    have : oj' = oj := Option.some.inj (hoj'.symm.trans hoj)
    subst this
    have h1 := hall x hx hb
    rw [hon] at h1
    refine up m ?_
    rcases Nat.lt_or_ge m listed.size with h' | h'
    · simp [h'] at h1 ⊢; exact h1
    · simp [Array.getElem?_eq_none h'] at h1 ⊢
  · rw [getD_set_ne true e] at hk
    exact up m (hc k m hk hw)
theorem Closed.start : Closed md ops (Array.replicate ops.size false) := by
  intro j m hj hw
  have := lt_of_waits hw
  simp [this] at hj
def WaitsT (md : Region.Mode) (ops : Array Oper) (bar : Nat → Bool) (i : Nat) : Prop := ∀ j, bar j = true → j ≠ i → reachB md ops ops.size j i = true

def wpJF (F : Fence) (n : Nat) (P : Program) (md : Region.Mode) (ops : Array Oper) (Q : Exit → Act → World → Prop) (S : World → Prop) (bar : Nat → Bool) : Nat → Array Bool → Act → World → Prop
  | 0, listed, a, w => Region.ready md ops listed = [] ∧ Q .normal a w
  | fuel + 1, listed, a, w => (Region.ready md ops listed = [] → Q .normal a w) ∧
    ∀ i ∈ Region.ready md ops listed, wpOpIn F n P ops Q i (fun a' w' => (bar i = true ∨ S w') ∧ wpJF F n P md ops Q S bar fuel (listed.setIfInBounds i true) a' w') a w
theorem wpAnyIn_of_JF : ∀ (fuel : Nat) (listed : Array Bool) (a : Act) (w : World), wpJF F n P md ops Q S bar fuel listed a w → wpAnyIn F n P md ops Q fuel listed a w
  | 0, _, _, _, h => h
  | fuel + 1, _, _, _, h => ⟨h.1, fun i hi => wpOpIn_mono (fun a' w' h' => wpAnyIn_of_JF fuel _ a' w' h'.2) (h.2 i hi)⟩
theorem wpJF_first {i : Nat} {oi : Oper} {v : Value} (hro : F.round = none) (hi : ops[i]? = some oi) (hsel : Region.noSelect ops = true) (hQ : ∀ c a w, Q (.panic c) (a.put oi.dst v) w → Q (.panic c) a w) (hbar : WaitsT md ops bar i) (hbi : bar i = false) :
    ∀ (fuel : Nat) (listed : Array Bool) (a : Act) (w : World), Closed md ops listed →
      (∀ j oj, ops[j]? = some oj → j ≠ i → listed.getD j true = false → (∀ e ∈ oj.after, Region.binds md e = true → e.on ≠ i) → oi.apart ops oj = true) →
      i ∈ Region.ready md ops listed → YieldsIfF P ops S oi v a → S w →
      wpJF F n P md ops Q S bar fuel (listed.setIfInBounds i true) (a.put oi.dst v) w → wpJF F n P md ops Q S bar (fuel + 1) listed a w
  | 0, listed, a, w, _, _, hr, hy, hS, H => by
    refine ⟨fun h => (by rw [h] at hr; cases hr), fun j hj => ?_⟩
    by_cases hji : j = i
    · subst hji; exact hy.wpOpIn hro hi hS ⟨.inr hS, H⟩
    · have := ready_mono hj hji
      rw [H.1] at this
      cases this
  | fuel + 1, listed, a, w, hcl, hfree, hr, hy, hS, H => by
    refine ⟨fun h => (by rw [h] at hr; cases hr), fun j hj => ?_⟩
    by_cases hji : j = i
    · subst hji; exact hy.wpOpIn hro hi hS ⟨.inr hS, H⟩
    · have hbj : bar j = false := by
        cases hb : bar j with
        | false => rfl
        | true => exact absurd hj (reach_unlisted hcl (mem_ready.1 hr).1 _ _ (hbar j hb hji)).2
      obtain ⟨hjun, oj, hoj, hall⟩ := mem_ready.1 hj
      have hnot : ∀ e ∈ oj.after, Region.binds md e = true → e.on ≠ i := fun e he hb heq => by
        have : Region.waitsFor md ops j i = true := by
          unfold Region.waitsFor
          rw [hoj]
          exact Array.any_eq_true'.2 ⟨e, he, by simp [hb, heq]⟩
        exact not_ready_of_waits hr this hj
      have h2 := wpOpIn_putIf hro hoj (hfree j oj hoj hji hjun hnot) (fun cs b => Region.noSelect_spec hsel i oi cs b hi) (fun cs b => Region.noSelect_spec hsel j oj cs b hoj) hQ hy (H.2 j (ready_mono hj hji))
      refine wpOpIn_mono (fun a' w' h3 => ?_) h2
      have hS' : S w' := by
        rcases h3.2.1 with h4 | h4
        · rw [hbj] at h4; cases h4
        · exact h4
      refine ⟨.inr hS', wpJF_first hro hi hsel hQ hbar hbi fuel (listed.setIfInBounds j true) a' w' (hcl.step hj) (fun k ok hk hki hun hno => ?_) (ready_mono hr (Ne.symm hji)) h3.1 hS' ?_⟩
      · refine hfree k ok hk hki ?_ hno
        by_cases hjk : j = k
        · subst hjk; exact hjun
        · rw [getD_set_ne true hjk] at hun; exact hun
      · rw [Array.setIfInBounds_comm _ _ hji]
        exact h3.2.2

/-- The closed facts. -/
def fstepsB (md : Region.Mode) (ops : Array Oper) (bar : Nat → Bool) : List (Bool × Nat) → Array Bool → Bool
  | [], listed => decide (Region.ready md ops listed = [])
  | (true, k) :: ks, listed => (Region.ready md ops listed).contains k && Region.free md ops listed k && !bar k && ((List.range ops.size).all fun j => !bar j || decide (j = k) || reachB md ops ops.size j k) && fstepsB md ops bar ks (listed.setIfInBounds k true)
  | (false, k) :: ks, listed => decide (Region.ready md ops listed = [k]) && (!bar k || ks.all fun b => !b.1) && fstepsB md ops bar ks (listed.setIfInBounds k true)
/-- The operations in the order that is named; true: a read. -/
def fsteps (F : Fence) (n : Nat) (P : Program) (ops : Array Oper) (Q : Exit → Act → World → Prop) (S : World → Prop) (bar : Nat → Bool) : List (Bool × Nat) → Act → World → Prop
  | [], a, w => Q .normal a w
  | (true, i) :: ks, a, w => ∃ o v, ops[i]? = some o ∧ YieldsIfF P ops S o v a ∧ fsteps F n P ops Q S bar ks (a.put o.dst v) w
  | (false, i) :: ks, a, w => ∃ o, ops[i]? = some o ∧ Region.wanted o (yielded ops a.tmps) = true ∧ o.wpIn F n P a w (fun a' w' => (bar i = true ∨ S w') ∧ fsteps F n P ops Q S bar ks a' w') Q
theorem wpJF_of_fsteps (hro : F.round = none) (hsel : Region.noSelect ops = true) (hQ : ∀ c a o v w, Q (.panic c) (a.put o v) w → Q (.panic c) a w) (hbo : ∀ j, ops.size ≤ j → bar j = false) :
    ∀ (ks : List (Bool × Nat)) (listed : Array Bool) (a : Act) (w : World), fstepsB md ops bar ks listed = true → Closed md ops listed →
      (S w ∨ ks.all (fun b => !b.1) = true) → fsteps F n P ops Q S bar ks a w → wpJF F n P md ops Q S bar ks.length listed a w
  | [], listed, a, w, hB, _, _, h => ⟨of_decide_eq_true hB, h⟩
  | (true, k) :: ks, listed, a, w, hB, hC, hS, h => by
    simp only [fstepsB, Bool.and_eq_true] at hB
    obtain ⟨⟨⟨⟨hr, hf⟩, hbk⟩, hw⟩, hB'⟩ := hB
    have hSw : S w := by
      rcases hS with hS | hS
      · exact hS
      · simp at hS
    obtain ⟨o, v, h0, hy, hrest⟩ := h
    have hbk' : bar k = false := by simpa using hbk
    have hwait : WaitsT md ops bar k := fun j hj hne => by
      have hjl : j < ops.size := by
        rcases Nat.lt_or_ge j ops.size with h' | h'
        · exact h'
        · rw [hbo j h'] at hj; cases hj
      rw [List.all_eq_true] at hw
      have := hw j (List.mem_range.2 hjl)
      rw [hj] at this
      simpa [hne] using this
    have ih := wpJF_of_fsteps hro hsel hQ hbo ks (listed.setIfInBounds k true) (a.put o.dst v) w hB' (hC.step (by simpa using hr)) (.inl hSw) hrest
    rw [List.length_cons]
    exact wpJF_first hro h0 hsel (fun c a w => hQ c a o.dst v w) hwait hbk' ks.length listed a w hC (Region.free_spec h0 hf) (by simpa using hr) hy hSw ih
  | (false, k) :: ks, listed, a, w, hB, hC, hS, h => by
    simp only [fstepsB, Bool.and_eq_true, decide_eq_true_eq] at hB
    obtain ⟨⟨hr, hbk⟩, hB'⟩ := hB
    obtain ⟨o, h0, hw, h⟩ := h
    refine ⟨fun h1 => (by rw [h1] at hr; cases hr), fun i hi => ?_⟩
    rw [hr] at hi
    obtain rfl : i = k := by simpa using hi
    have ih := fun a' w' (hs : bar i = true ∨ S w') h' => wpJF_of_fsteps hro hsel hQ hbo ks (listed.setIfInBounds i true) a' w' hB' (hC.step (by rw [hr]; simp)) (by
      rcases hs with hs | hs
      · rw [hs] at hbk
        exact .inr (by simpa using hbk)
      · exact .inl hs) h'
    unfold wpOpIn
    simp only [h0]
    simp only [hw, if_true]
    exact Oper.wpIn_mono (fun a' w' h' => ⟨h'.1, ih a' w' h'.1 h'.2⟩) h

def fstepsOk (l : List Oper) (ks : List (Bool × Nat)) (bar : Nat → Bool) : Bool :=
  Region.noSelect l.toArray && decide (ks.length = l.length) && fstepsB .any l.toArray bar ks (Array.replicate l.toArray.size false)
theorem fsteps_plain {id : Nat} {a : Act} {w : World} {l : List Oper} (ks : List (Bool × Nat)) (S : World → Prop) (bar : Nat → Bool) (hro : F.round = none) (hm : P.follows .mixedOrders = true)
    (hB : fstepsOk l ks bar = true) (hbo : ∀ j, l.length ≤ j → bar j = false) (hQ : ∀ c a o v w, Q (.panic c) (a.put o v) w → Q (.panic c) a w) (hS : S w.drew)
    (H : fsteps F n P l.toArray Q S bar ks a w.drew) : (Code.region id l.toArray true).wpIn F n P Q a w := by
  simp only [fstepsOk, Bool.and_eq_true, decide_eq_true_eq] at hB
  obtain ⟨⟨hsel, hn⟩, hm2⟩ := hB
  have := wpAnyIn_of_JF _ _ _ _ (wpJF_of_fsteps (F := F) (n := n) hro hsel hQ (fun j hj => hbo j (by simpa using hj)) ks _ a w.drew hm2 Closed.start (.inl hS) H)
  rw [hn] at this
  exact wpIn_region_any hm (by simpa using this)
theorem fsteps_read {i : Nat} {o : Oper} {ks : List (Bool × Nat)} {a : Act} {w : World} (v : Value) (ho : ops[i]? = some o) (hw : Region.wanted o (yielded ops a.tmps) = true) (hab : ∀ w, o.about P w a.eval = none) (hv : ∀ w, S w → (execOp a.eval o).run P w = .ok (.value v) w)
    (h : fsteps F n P ops Q S bar ks (a.put o.dst v) w) : fsteps F n P ops Q S bar ((true, i) :: ks) a w := ⟨o, v, ho, ⟨.inl ⟨hw, hv⟩, hab⟩, h⟩
theorem fsteps_write {i : Nat} {o : Oper} {ks : List (Bool × Nat)} {a : Act} {w : World} (ho : ops[i]? = some o) (hw : Region.wanted o (yielded ops a.tmps) = true)
    (h : ∀ K : Act → World → Prop, (∀ a' w', (bar i = true ∨ S w') → fsteps F n P ops Q S bar ks a' w' → K a' w') → o.wpIn F n P a w K Q) : fsteps F n P ops Q S bar ((false, i) :: ks) a w :=
  ⟨o, ho, hw, h _ fun _ _ h1 h2 => ⟨h1, h2⟩⟩
theorem fsteps_end {a : Act} {w : World} (h : Q .normal a w) : fsteps F n P ops Q S bar [] a w := h
end
end Go.Proofs.YtcncdepjbhnknaaGreatDoor
/- Steps' law where what is barred waits for the reads through others. -/
namespace Go.Proofs.YtcncdepjbhnknaaGreatDoor
open Go.RowKit

section
variable {P : Program} {ops : Array Oper} {Q : Exit → Act → World → Prop} {md : Region.Mode} {S : World → Prop} {bar : Nat → Bool}

theorem wpJT_first {i : Nat} {oi : Oper} {v : Value} (hi : ops[i]? = some oi) (hsel : Region.noSelect ops = true) (hQ : ∀ c a w, Q (.panic c) (a.put oi.dst v) w → Q (.panic c) a w) (hbar : WaitsT md ops bar i) (hbi : bar i = false) :
    ∀ (fuel : Nat) (listed : Array Bool) (a : Act) (w : World), Closed md ops listed →
      (∀ j oj, ops[j]? = some oj → j ≠ i → listed.getD j true = false → (∀ e ∈ oj.after, Region.binds md e = true → e.on ≠ i) → oi.apart ops oj = true) →
      i ∈ Region.ready md ops listed → YieldsIf P ops S oi v a → S w →
      wpJ P md ops Q S bar fuel (listed.setIfInBounds i true) (a.put oi.dst v) w → wpJ P md ops Q S bar (fuel + 1) listed a w
  | 0, listed, a, w, _, _, hr, hy, hS, H => by
    refine ⟨fun h => (by rw [h] at hr; cases hr), fun j hj => ?_⟩
    by_cases hji : j = i
    · subst hji; exact hy.wpOp hi hS ⟨.inr hS, H⟩
    · have := ready_mono hj hji
      rw [H.1] at this
      cases this
  | fuel + 1, listed, a, w, hcl, hfree, hr, hy, hS, H => by
    refine ⟨fun h => (by rw [h] at hr; cases hr), fun j hj => ?_⟩
    by_cases hji : j = i
    · subst hji; exact hy.wpOp hi hS ⟨.inr hS, H⟩
    · have hbj : bar j = false := by
        cases hb : bar j with
        | false => rfl
        | true => exact absurd hj (reach_unlisted hcl (mem_ready.1 hr).1 _ _ (hbar j hb hji)).2
      obtain ⟨hjun, oj, hoj, hall⟩ := mem_ready.1 hj
      have hnot : ∀ e ∈ oj.after, Region.binds md e = true → e.on ≠ i := fun e he hb heq => by
        have : Region.waitsFor md ops j i = true := by
          unfold Region.waitsFor
          rw [hoj]
          exact Array.any_eq_true'.2 ⟨e, he, by simp [hb, heq]⟩
        exact not_ready_of_waits hr this hj
      have h2 := wpOp_putIf hoj (hfree j oj hoj hji hjun hnot) (fun cs b => Region.noSelect_spec hsel i oi cs b hi) (fun cs b => Region.noSelect_spec hsel j oj cs b hoj) hQ hy (H.2 j (ready_mono hj hji))
      refine wpOp_mono (fun a' w' h3 => ?_) h2
      have hS' : S w' := by
        rcases h3.2.1 with h4 | h4
        · rw [hbj] at h4; cases h4
        · exact h4
      refine ⟨.inr hS', wpJT_first hi hsel hQ hbar hbi fuel (listed.setIfInBounds j true) a' w' (hcl.step hj) (fun k ok hk hki hun hno => ?_) (ready_mono hr (Ne.symm hji)) h3.1 hS' ?_⟩
      · refine hfree k ok hk hki ?_ hno
        by_cases hjk : j = k
        · subst hjk; exact hjun
        · rw [getD_set_ne true hjk] at hun; exact hun
      · rw [Array.setIfInBounds_comm _ _ hji]
        exact h3.2.2
theorem wpJ_of_tsteps (hsel : Region.noSelect ops = true) (hQ : ∀ c a o v w, Q (.panic c) (a.put o v) w → Q (.panic c) a w) (hbo : ∀ j, ops.size ≤ j → bar j = false) :
    ∀ (ks : List (Bool × Nat)) (listed : Array Bool) (a : Act) (w : World), fstepsB md ops bar ks listed = true → Closed md ops listed →
      (S w ∨ ks.all (fun b => !b.1) = true) → steps P ops Q S bar ks a w → wpJ P md ops Q S bar ks.length listed a w
  | [], listed, a, w, hB, _, _, h => ⟨of_decide_eq_true hB, h⟩
  | (true, k) :: ks, listed, a, w, hB, hC, hS, h => by
    simp only [fstepsB, Bool.and_eq_true] at hB
    obtain ⟨⟨⟨⟨hr, hf⟩, hbk⟩, hw⟩, hB'⟩ := hB
    have hSw : S w := by
      rcases hS with hS | hS
      · exact hS
      · simp at hS
    obtain ⟨o, v, h0, hy, hrest⟩ := h
    have hbk' : bar k = false := by simpa using hbk
    have hwait : WaitsT md ops bar k := fun j hj hne => by
      have hjl : j < ops.size := by
        rcases Nat.lt_or_ge j ops.size with h' | h'
        · exact h'
        · rw [hbo j h'] at hj; cases hj
      rw [List.all_eq_true] at hw
      have := hw j (List.mem_range.2 hjl)
      rw [hj] at this
      simpa [hne] using this
    have ih := wpJ_of_tsteps hsel hQ hbo ks (listed.setIfInBounds k true) (a.put o.dst v) w hB' (hC.step (by simpa using hr)) (.inl hSw) hrest
    rw [List.length_cons]
    exact wpJT_first h0 hsel (fun c a w => hQ c a o.dst v w) hwait hbk' ks.length listed a w hC (Region.free_spec h0 hf) (by simpa using hr) hy hSw ih
  | (false, k) :: ks, listed, a, w, hB, hC, hS, h => by
    simp only [fstepsB, Bool.and_eq_true, decide_eq_true_eq] at hB
    obtain ⟨⟨hr, hbk⟩, hB'⟩ := hB
    obtain ⟨o, h0, h⟩ := h
    refine ⟨fun h1 => (by rw [hr] at h1; cases h1), fun i hi => ?_⟩
    rw [hr] at hi
    obtain rfl : i = k := by simpa using hi
    have ih := fun a' w' (hs : bar i = true ∨ S w') h' => wpJ_of_tsteps hsel hQ hbo ks (listed.setIfInBounds i true) a' w' hB' (hC.step (by rw [hr]; simp)) (by
      rcases hs with hs | hs
      · rw [hs] at hbk
        exact .inr (by simpa using hbk)
      · exact .inl hs) h'
    unfold wpOp
    simp only [h0]
    split at h
    · rename_i hw; simp only [hw, if_true]; exact .inl (Oper.wp_mono (fun a' w' h' => ⟨h'.1, ih a' w' h'.1 h'.2⟩) h)
    · rename_i hw; simp only [hw]; exact ⟨h.1, ih _ _ h.1 h.2⟩
theorem tsteps_plain {id : Nat} {a : Act} {w : World} {l : List Oper} (ks : List (Bool × Nat)) (S : World → Prop) (bar : Nat → Bool) (hm : P.follows .mixedOrders = true)
    (hB : fstepsOk l ks bar = true) (hd : noDefer l.toArray = true) (hbo : ∀ j, l.length ≤ j → bar j = false) (hQ : ∀ c a o v w, Q (.panic c) (a.put o v) w → Q (.panic c) a w) (hS : S w.drew)
    (H : steps P l.toArray Q S bar ks a w.drew) : (Code.region id l.toArray true).wp P Q a w := by
  simp only [fstepsOk, Bool.and_eq_true, decide_eq_true_eq] at hB
  obtain ⟨⟨hsel, hn⟩, hm2⟩ := hB
  have := wpAny_of_J _ _ _ _ (wpJ_of_tsteps hsel hQ (fun j hj => hbo j (by simpa using hj)) ks _ a w.drew hm2 Closed.start (.inl hS) H)
  rw [hn] at this
  exact wp_region_any hm (by simpa using this)
end
end Go.Proofs.YtcncdepjbhnknaaGreatDoor
/- slices.MinFunc over sights; Width's closures. -/
namespace Go.Proofs.YtcncdepjbhnknaaGreatDoor
open Go.RowKit Go.Shelf
attribute [local go_sem ↓] Go.wp_at_zero Go.wp_at_succ

abbrev sOf (a : Sg) : Obj := sO a.sn a.ob a.li a.se a.wi
/-- A sight that is stored. -/
theorem five_put {W : World} {g : Nat} {a b c d e : Int} (h : W.heap[g]? = some (sO a b c d e)) (s t u v y : Int) :
    (((((W.setCell ⟨g, 0, none⟩ (.int .i64 s)).setCell ⟨g, 1, none⟩ (.int .i64 t)).setCell ⟨g, 2, none⟩ (.int .i64 u)).setCell ⟨g, 3, none⟩ (.int .i64 v)).setCell ⟨g, 4, none⟩ (.int .i64 y)).heap[g]? = some (sO s t u v y) ∧
    (∀ k, k ≠ g → (((((W.setCell ⟨g, 0, none⟩ (.int .i64 s)).setCell ⟨g, 1, none⟩ (.int .i64 t)).setCell ⟨g, 2, none⟩ (.int .i64 u)).setCell ⟨g, 3, none⟩ (.int .i64 v)).setCell ⟨g, 4, none⟩ (.int .i64 y)).heap[k]? = W.heap[k]?) ∧
    ∀ B w0, Below B w0 W → B ≤ g → Below B w0 (((((W.setCell ⟨g, 0, none⟩ (.int .i64 s)).setCell ⟨g, 1, none⟩ (.int .i64 t)).setCell ⟨g, 2, none⟩ (.int .i64 u)).setCell ⟨g, 3, none⟩ (.int .i64 v)).setCell ⟨g, 4, none⟩ (.int .i64 y)) :=
  ⟨Joins.block_setCell (Joins.block_setCell (Joins.block_setCell (Joins.block_setCell (Joins.block_setCell h _) _) _) _) _,
    fun k hk => (Below.heap_setCell _ _ _ _ hk).trans ((Below.heap_setCell _ _ _ _ hk).trans ((Below.heap_setCell _ _ _ _ hk).trans ((Below.heap_setCell _ _ _ _ hk).trans (Below.heap_setCell _ _ _ _ hk)))),
    fun B w0 h hB => ((((h.setCell (p := ⟨g, 0, none⟩) hB _).setCell (p := ⟨g, 1, none⟩) hB _).setCell (p := ⟨g, 2, none⟩) hB _).setCell (p := ⟨g, 3, none⟩) hB _).setCell (p := ⟨g, 4, none⟩) hB _⟩
/-- What MinFunc answers. -/
def MinPost (l : List Sg) (w : World) (e : Ending) (w' : World) : Prop := ∃ m, e = .returned (sV m) ∧ m ∈ l ∧ (∀ x ∈ l, m.se ≤ x.se) ∧ Below w.heap.size w w'
/-- Two sights in memory. -/
abbrev SS (g b o : Nat) (m a : Sg) (w' : World) : Prop := (w'.cell? ⟨g, 0, none⟩ = some (.int .i64 m.sn) ∧ w'.cell? ⟨g, 1, none⟩ = some (.int .i64 m.ob) ∧ w'.cell? ⟨g, 2, none⟩ = some (.int .i64 m.li) ∧ w'.cell? ⟨g, 3, none⟩ = some (.int .i64 m.se) ∧ w'.cell? ⟨g, 4, none⟩ = some (.int .i64 m.wi)) ∧
  (w'.cell? ⟨b, o, none⟩ = some (.int .i64 a.sn) ∧ w'.cell? ⟨b, o + 1, none⟩ = some (.int .i64 a.ob) ∧ w'.cell? ⟨b, o + 2, none⟩ = some (.int .i64 a.li) ∧ w'.cell? ⟨b, o + 3, none⟩ = some (.int .i64 a.se) ∧ w'.cell? ⟨b, o + 4, none⟩ = some (.int .i64 a.wi))
set_option maxRecDepth 100000 in
set_option maxHeartbeats 4000000 in
theorem min_any {g2 : Nat} (hent : ∀ args w, (callFunc g2 args).run Tryz.prog w = .ok (.enter g2 args) w) {v : Value} {l : List Sg} {w : World} (hv : SL w v l) (h1 : 1 ≤ l.length) (hl : l.length ≤ 1000)
    (hc : ∀ a ∈ l, ∀ b ∈ l, ∀ W, Below w.heap.size w W → Calls Tryz.prog g2 #[sV a, sV b] W (ValPost (.int .i64 (a.se - b.se)) W)) :
    Calls Tryz.prog 96 #[v, .func (.func g2) #[] #[]] w (MinPost l w) := by
  obtain ⟨n, hn⟩ : ∃ n, l.length = n := ⟨_, rfl⟩
  obtain ⟨p, c, rfl⟩ : ∃ p c, v = .slice p n c := by obtain ⟨p, c, h, _⟩ := id hv; exact ⟨_, _, by rw [← hn]; exact h⟩
  obtain ⟨_, hcc, hnc⟩ := hv.len
  obtain ⟨b, off, rfl, hb, hat⟩ := hv.at hn (by omega)
  rw [hn] at h1 hl
  have HN := Lib.hid hn
  have HAT := Lib.hid hat
  have HC := Lib.hid hc
  have hb0 : Below w.heap.size w (w.alloc (sO 0 0 0 0 0)) := (Below.refl _ w).alloc (Nat.le_refl _) _
  obtain ⟨a0, a1, a2, a3, a4⟩ := hat _ hb0 0 (by omega)
  rw [Nat.zero_mul, Nat.add_zero] at a0 a1 a2 a3 a4
  have i1 : ¬ (n : Int) < 1 := by omega
  have i2 : (0 : Int) < (n : Int) := by omega
  obtain ⟨q, hq⟩ : ∃ q, sAt l 0 = q := ⟨_, rfl⟩
  have HQ0 := Lib.hid hq
  rw [hq] at a0 a1 a2 a3 a4
  obtain ⟨w1, hw1⟩ : ∃ z, (w.alloc (sO 0 0 0 0 0)).alloc (sOf q) = z := ⟨_, rfl⟩
  have HX1 : Hid (Boxes w.heap.size [sO 0 0 0 0 0, sOf q] w1) := by rw [← hw1]; exact Boxes.two w _ _
  have HB1 : Hid (Below w.heap.size w w1) := by rw [← hw1]; exact hb0.alloc (by simp) _
  clear hv hn hat hc hb0 hq
  go_enter Tryz.func96, Tryz.ntmps96
  go_wp2
  clear hw1 a0 a1 a2 a3 a4
  go_loopw [6] (fun i wr => ∃ (k : Nat) (m : Sg), i = .int .i64 k ∧ 1 ≤ k ∧ k ≤ n ∧ Hid (Boxes w.heap.size [sO 0 0 0 0 0, sOf m] wr) ∧ Hid (m ∈ l ∧ ∀ j, j < k → m.se ≤ (sAt l j).se) ∧ Hid (Below w.heap.size w wr)) (fun i _ => n - (intOf i).toNat)
  case atStart => exact ⟨1, q, rfl, Nat.le_refl _, by omega, HX1, ⟨by rw [← HQ0.out]; exact sAt_here (by rw [HN.out]; omega), fun j hj => by
    obtain rfl : j = 0 := by omega
    rw [HQ0.out]
    exact Int.le_refl _⟩, HB1⟩
  case round =>
    obtain ⟨k, m, rfl, hk1, hk, HX, HM, HB⟩ := hrel
    by_cases hlt : k < n
    · have hE := HAT.out wr HB.out k hlt
      have hF := HC.out (sAt l k) (sAt_here (by rw [HN.out]; omega)) m HM.out.1 _ HB.out.drew
      have HIN : Hid (sAt l k ∈ l) := sAt_here (by rw [HN.out]; omega)
      obtain ⟨a, ha⟩ : ∃ q, sAt l k = q := ⟨_, rfl⟩
      have HA := Lib.hid ha
      rw [ha] at hE hF HIN
      have HF := Lib.hid hF
      have hS : SS (w.heap.size + 1) b (off + k * 5) m a wr.drew := ⟨⟨HX.out.cell 1 0 (b := w.heap.size + 1) rfl rfl rfl, HX.out.cell 1 1 (b := w.heap.size + 1) rfl rfl rfl, HX.out.cell 1 2 (b := w.heap.size + 1) rfl rfl rfl, HX.out.cell 1 3 (b := w.heap.size + 1) rfl rfl rfl, HX.out.cell 1 4 (b := w.heap.size + 1) rfl rfl rfl⟩, hE⟩
      obtain ⟨mx, my, mz, ms, md⟩ := m
      obtain ⟨x, y, z, s, d⟩ := a
      dsimp only at hS HF
      have i3 : (k : Int) < (n : Int) := by omega
      clear hE hF ha
      go_wp2_with fail
      refine tsteps_plain [(true, 0), (true, 1), (true, 2), (true, 3), (true, 4), (true, 5), (false, 6), (true, 7)] (SS (w.heap.size + 1) b (off + k * 5) ⟨mx, my, mz, ms, md⟩ ⟨x, y, z, s, d⟩) (fun _ => false)
        (by kernel_rfl) (by kernel_rfl) (by kernel_rfl) (fun _ _ => rfl) (fun _ _ o _ _ h => by cases o <;> exact h) hS ?_
      iterate 6
        refine steps_read _ rfl rfl (fun w' hS => by obtain ⟨⟨a0, a1, a2, a3, a4⟩, b0, b1, b2, b3, b4⟩ := hS; go_simp; first | rfl | (rw [if_pos (by omega)])) ?_
        simp only [List.getElem_toArray, List.getElem_cons_succ, List.getElem_cons_zero, Act.put, List.setIfInBounds_toArray, List.set_cons_zero, List.set_cons_succ]
      refine steps_write rfl rfl fun K hK => ?_
      go_simp
      refine HF.out.mono ?_
      rintro e V ⟨rfl, hb⟩
      have hbw : Below wr.heap.size wr V := (Below.refl _ wr).drew.trans hb
      have HBV : Hid (Below w.heap.size w V) := HB.out.trans (hbw.mono HB.out.size)
      have HXV : Hid (Boxes w.heap.size [sO 0 0 0 0 0, sOf ⟨mx, my, mz, ms, md⟩] V) := HX.out.below hbw HX.out.lt
      have hE := HAT.out V HBV.out k hlt
      rw [HA.out] at hE
      have hSV : SS (w.heap.size + 1) b (off + k * 5) ⟨mx, my, mz, ms, md⟩ ⟨x, y, z, s, d⟩ V := ⟨⟨HXV.out.cell 1 0 (b := w.heap.size + 1) rfl rfl rfl, HXV.out.cell 1 1 (b := w.heap.size + 1) rfl rfl rfl, HXV.out.cell 1 2 (b := w.heap.size + 1) rfl rfl rfl, HXV.out.cell 1 3 (b := w.heap.size + 1) rfl rfl rfl, HXV.out.cell 1 4 (b := w.heap.size + 1) rfl rfl rfl⟩, hE⟩
      have HSV := Lib.hid hSV
      refine hK _ _ (.inr hSV) ?_
      clear hK K hb hE hSV hbw
      refine steps_read _ rfl rfl (fun w' hS => by go_simp; rfl) ?_
      simp only [List.getElem_toArray, List.getElem_cons_succ, List.getElem_cons_zero, Act.put, List.setIfInBounds_toArray, List.set_cons_zero, List.set_cons_succ]
      refine steps_end ?_
      by_cases hls : s - ms < 0
      · have HM2 : Hid ((⟨x, y, z, s, d⟩ : Sg) ∈ l ∧ ∀ j, j < k + 1 → s ≤ (sAt l j).se) := ⟨HIN.out, fun j hj => by
          rcases Nat.lt_or_ge j k with h | h
          · have := HM.out.2 j h
            omega
          · obtain rfl : j = k := by omega
            rw [HA.out]
            exact Int.le_refl _⟩
        obtain ⟨⟨a0, a1, a2, a3, a4⟩, b0, b1, b2, b3, b4⟩ := HSV.out
        have f0 := HXV.out.free 1 0 (b := w.heap.size + 1) rfl rfl
        have f1 := HXV.out.free 1 1 (b := w.heap.size + 1) rfl rfl
        have f2 := HXV.out.free 1 2 (b := w.heap.size + 1) rfl rfl
        have f3 := HXV.out.free 1 3 (b := w.heap.size + 1) rfl rfl
        have f4 := HXV.out.free 1 4 (b := w.heap.size + 1) rfl rfl
        dsimp only at a0 a1 a2 a3 a4 b0 b1 b2 b3 b4
        have k0' : (0 : Int) ≤ (k : Int) := by omega
        go_wp2
        obtain ⟨p1, p2, p3⟩ := five_put (HXV.out.block 1 (b := w.heap.size + 1) rfl rfl) x y z s d
        have p4 := (p2 w.heap.size (by omega)).trans (HXV.out.block 0 (b := w.heap.size) rfl rfl)
        have HBZ := Lib.hid (p3 _ _ HBV.out (Nat.le_succ _))
        obtain ⟨Z, hZ⟩ : ∃ Z, (((((V.setCell ⟨w.heap.size + 1, 0, none⟩ (.int .i64 x)).setCell ⟨w.heap.size + 1, 1, none⟩ (.int .i64 y)).setCell ⟨w.heap.size + 1, 2, none⟩ (.int .i64 z)).setCell ⟨w.heap.size + 1, 3, none⟩ (.int .i64 s)).setCell ⟨w.heap.size + 1, 4, none⟩ (.int .i64 d)) = Z := ⟨_, rfl⟩
        rw [hZ] at p1 p4 HBZ ⊢
        have HXZ : Hid (Boxes w.heap.size [sO 0 0 0 0 0, sOf ⟨x, y, z, s, d⟩] Z) := by
          refine ⟨by have := (Array.getElem?_eq_some_iff.1 p1).1; simp; omega, fun i o ho => ?_⟩
          match i, ho with
          | 0, ho => cases ho; exact p4
          | 1, ho => cases ho; exact p1
        clear p1 p2 p3 p4 hZ a0 a1 a2 a3 a4 b0 b1 b2 b3 b4 f0 f1 f2 f3 f4
        go_roundw
        case rel => exact ⟨k + 1, ⟨x, y, z, s, d⟩, by go_num, by omega, by omega, HXZ, HM2, HBZ⟩
        case measure => simp [intOf]; omega
      · have HM2 : Hid ((⟨mx, my, mz, ms, md⟩ : Sg) ∈ l ∧ ∀ j, j < k + 1 → ms ≤ (sAt l j).se) := ⟨HM.out.1, fun j hj => by
          rcases Nat.lt_or_ge j k with h | h
          · exact HM.out.2 j h
          · obtain rfl : j = k := by omega
            rw [HA.out]
            show ms ≤ s
            omega⟩
        have hls' : ¬ s - ms < 0 := hls
        go_wp2
        go_roundw
        case rel => exact ⟨k + 1, ⟨mx, my, mz, ms, md⟩, by go_num, by omega, by omega, HXV, HM2, HBV⟩
        case measure => simp [intOf]; omega
    · obtain rfl : k = n := by omega
      obtain ⟨mx, my, mz, ms, md⟩ := m
      have a0 := HX.out.cell 1 0 (b := w.heap.size + 1) rfl rfl rfl
      have a1 := HX.out.cell 1 1 (b := w.heap.size + 1) rfl rfl rfl
      have a2 := HX.out.cell 1 2 (b := w.heap.size + 1) rfl rfl rfl
      have a3 := HX.out.cell 1 3 (b := w.heap.size + 1) rfl rfl rfl
      have a4 := HX.out.cell 1 4 (b := w.heap.size + 1) rfl rfl rfl
      have b0 := HX.out.cell 0 0 (b := w.heap.size) rfl rfl rfl
      have b1 := HX.out.cell 0 1 (b := w.heap.size) rfl rfl rfl
      have b2 := HX.out.cell 0 2 (b := w.heap.size) rfl rfl rfl
      have b3 := HX.out.cell 0 3 (b := w.heap.size) rfl rfl rfl
      have b4 := HX.out.cell 0 4 (b := w.heap.size) rfl rfl rfl
      have f0 := HX.out.free 0 0 (b := w.heap.size) rfl rfl
      have f1 := HX.out.free 0 1 (b := w.heap.size) rfl rfl
      have f2 := HX.out.free 0 2 (b := w.heap.size) rfl rfl
      have f3 := HX.out.free 0 3 (b := w.heap.size) rfl rfl
      have f4 := HX.out.free 0 4 (b := w.heap.size) rfl rfl
      dsimp only at a0 a1 a2 a3 a4
      go_wp2
      obtain ⟨p1, p2, p3⟩ := five_put (HX.out.block 0 (b := w.heap.size) rfl rfl) mx my mz ms md
      have q0 := known_cell p1 0 rfl
      have q1 := known_cell p1 1 rfl
      have q2 := known_cell p1 2 rfl
      have q3 := known_cell p1 3 rfl
      have q4 := known_cell p1 4 rfl
      refine bodyPost_ret (v := sV ⟨mx, my, mz, ms, md⟩) (by simp [results, Tryz.f96, go_sem, q0, q1, q2, q3, q4]) rfl ⟨⟨mx, my, mz, ms, md⟩, rfl, HM.out.1, fun x hx => ?_, p3 _ _ HB.out (Nat.le_refl _)⟩
      obtain ⟨j, hj, rfl⟩ := List.getElem_of_mem hx
      have := HM.out.2 j (by rw [← HN.out]; exact hj)
      rw [sAt_get hj] at this
      exact this
end Go.Proofs.YtcncdepjbhnknaaGreatDoor
/- slices.ContainsFunc over bends and over fractions: does something hold of any? -/
namespace Go.Proofs.YtcncdepjbhnknaaGreatDoor
open Go.RowKit Go.Shelf
attribute [local go_sem ↓] Go.wp_at_zero Go.wp_at_succ

/-- What an index answers. -/
def IdxPost (w : World) (n : Nat) (f : Nat → Bool) (e : Ending) (w' : World) : Prop :=
  ∃ i : Int, e = .returned (.int .i64 i) ∧ ((0 ≤ i ∧ ∃ k, k < n ∧ f k = true) ∨ (i = -1 ∧ ∀ k, k < n → f k = false)) ∧ Below w.heap.size w w'
/-- .. and whether there is one. -/
def AnyPost (w : World) (n : Nat) (f : Nat → Bool) (e : Ending) (w' : World) : Prop :=
  ∃ b : Bool, e = .returned (.bool b) ∧ ((b = true ∧ ∃ k, k < n ∧ f k = true) ∨ (b = false ∧ ∀ k, k < n → f k = false)) ∧ Below w.heap.size w w'
set_option maxRecDepth 100000 in
set_option maxHeartbeats 2000000 in
theorem indexB_any {g : Nat} {caps : Array Value} (hent : ∀ args w, (callFunc g args).run Tryz.prog w = .ok (.enter g args) w) {f : Nat → Bool} {v : Value} {bs : List BB} {n : Nat} {w : World} (hv : BL w v bs) (hn : bs.length = n)
    (hf : ∀ k, k < n → ∀ W, Below w.heap.size w W → Calls Tryz.prog g (#[bV (bAt bs k)] ++ caps) W (BoolPost W (f k))) :
    Calls Tryz.prog 100 #[v, .func (.func g) #[] caps] w (IdxPost w n f) := by
  obtain ⟨p, c, rfl⟩ : ∃ p c, v = .slice p n c := by obtain ⟨p, c, h, _⟩ := id hv; exact ⟨_, _, by rw [← hn]; exact h⟩
  obtain ⟨_, hc, hnc⟩ := hv.len
  have HV := Lib.hid hv
  have HN := Lib.hid hn
  have HF := Lib.hid hf
  clear hv hn hf
  go_enter Tryz.func100, Tryz.ntmps100
  go_wp2
  go_loopw [8] (fun i wr => ∃ (k : Nat), i = .int .i64 k ∧ k ≤ n ∧ Hid (∀ j, j < k → f j = false) ∧ Hid (Below w.heap.size w wr)) (fun i _ => n - (intOf i).toNat)
  case atStart => exact ⟨0, rfl, Nat.zero_le _, fun j h => by omega, Below.refl _ _⟩
  case round =>
    obtain ⟨k, rfl, hk, HK, HB⟩ := hrel
    by_cases hlt : k < n
    · obtain ⟨b, o, rfl, _, hat⟩ := HV.out.at HN.out (by omega)
      obtain ⟨e0, e1, e2, e3⟩ := hat wr HB.out k hlt
      have hF : ∀ W, Below w.heap.size w W → Calls Tryz.prog g (#[.agg #[.string (bAt bs k).1.1, .string (bAt bs k).1.2, .string (bAt bs k).2.1, .string (bAt bs k).2.2]] ++ caps) W (BoolPost W (f k)) := HF.out k hlt
      obtain ⟨s, hs⟩ : ∃ s, (bAt bs k).1.1 = s := ⟨_, rfl⟩
      obtain ⟨t, ht⟩ : ∃ s, (bAt bs k).1.2 = s := ⟨_, rfl⟩
      obtain ⟨x, hx⟩ : ∃ s, (bAt bs k).2.1 = s := ⟨_, rfl⟩
      obtain ⟨y, hy⟩ : ∃ s, (bAt bs k).2.2 = s := ⟨_, rfl⟩
      rw [hs] at e0
      rw [ht] at e1
      rw [hx] at e2
      rw [hy] at e3
      rw [hs, ht, hx, hy] at hF
      have HG := Lib.hid hF
      clear hF hat hs ht hx hy
      obtain ⟨r, hr⟩ : ∃ r, f k = r := ⟨_, rfl⟩
      have HR := Lib.hid hr
      clear hr
      go_wp2_with fail
      refine (HG.out _ HB.out).mono ?_
      rintro e w2 ⟨rfl, hb⟩
      rw [HR.out]
      have HB2 := Lib.hid (HB.out.trans (hb.mono HB.out.size))
      clear hb e0 e1 e2 e3
      cases r
      · have HK2 : Hid (∀ j, j < k + 1 → f j = false) := fun j h => by
          rcases Nat.lt_or_ge j k with h3 | h3
          · exact HK.out j h3
          · obtain rfl : j = k := by omega
            exact HR.out
        go_wp2
        go_roundw
        case rel => exact ⟨k + 1, by go_num, by omega, HK2, HB2⟩
        case measure => simp [intOf]; omega
      · go_wp2
        go_ret
        exact ⟨k, rfl, .inl ⟨by omega, k, hlt, HR.out⟩, HB2.out⟩
    · obtain rfl : n = k := by omega
      go_wp2
      go_ret
      exact ⟨-1, rfl, .inr ⟨rfl, fun j h => HK.out j h⟩, HB.out⟩
set_option maxRecDepth 100000 in
set_option maxHeartbeats 2000000 in
theorem indexP_any {g : Nat} {caps : Array Value} (hent : ∀ args w, (callFunc g args).run Tryz.prog w = .ok (.enter g args) w) {f : Nat → Bool} {v : Value} {ps : List PP} {n : Nat} {w : World} (hv : PL w v ps) (hn : ps.length = n)
    (hf : ∀ k (h : k < ps.length), ∀ W, Below w.heap.size w W → Calls Tryz.prog g (#[pV ps[k].1 ps[k].2] ++ caps) W (BoolPost W (f k))) :
    Calls Tryz.prog 128 #[v, .func (.func g) #[] caps] w (IdxPost w n f) := by
  obtain ⟨p, c, rfl, hnc, hc, hp⟩ := hv
  unfold maxLen at hc
  rw [hn] at hnc ⊢
  have HV := Lib.hid hp
  have HN := Lib.hid hn
  have HF := Lib.hid hf
  clear hp hn hf
  go_enter Tryz.func128, Tryz.ntmps128
  go_wp2
  go_loopw [8] (fun i wr => ∃ (k : Nat), i = .int .i64 k ∧ k ≤ n ∧ Hid (∀ j, j < k → f j = false) ∧ Hid (Below w.heap.size w wr)) (fun i _ => n - (intOf i).toNat)
  case atStart => exact ⟨0, rfl, Nat.zero_le _, fun j h => by omega, Below.refl _ _⟩
  case round =>
    obtain ⟨k, rfl, hk, HK, HB⟩ := hrel
    by_cases hlt : k < n
    · have hkp : k < ps.length := by rw [HN.out]; exact hlt
      obtain ⟨b, o, rfl, hbl, hat⟩ := HV.out (List.ne_nil_of_length_pos (by omega))
      obtain ⟨e0, e1⟩ := (hat.below HB.out hbl) k hkp
      have hF : ∀ W, Below w.heap.size w W → Calls Tryz.prog g (#[.agg #[.string ps[k].1, .string ps[k].2]] ++ caps) W (BoolPost W (f k)) := HF.out k hkp
      obtain ⟨s, hs⟩ : ∃ s, ps[k].1 = s := ⟨_, rfl⟩
      obtain ⟨t, ht⟩ : ∃ s, ps[k].2 = s := ⟨_, rfl⟩
      rw [hs] at e0
      rw [ht] at e1
      rw [hs, ht] at hF
      have HG := Lib.hid hF
      clear hF hat hs ht hkp
      obtain ⟨r, hr⟩ : ∃ r, f k = r := ⟨_, rfl⟩
      have HR := Lib.hid hr
      clear hr
      go_wp2_with fail
      refine (HG.out _ HB.out).mono ?_
      rintro e w2 ⟨rfl, hb⟩
      rw [HR.out]
      have HB2 := Lib.hid (HB.out.trans (hb.mono HB.out.size))
      clear hb e0 e1
      cases r
      · have HK2 : Hid (∀ j, j < k + 1 → f j = false) := fun j h => by
          rcases Nat.lt_or_ge j k with h3 | h3
          · exact HK.out j h3
          · obtain rfl : j = k := by omega
            exact HR.out
        go_wp2
        go_roundw
        case rel => exact ⟨k + 1, by go_num, by omega, HK2, HB2⟩
        case measure => simp [intOf]; omega
      · go_wp2
        go_ret
        exact ⟨k, rfl, .inl ⟨by omega, k, hlt, HR.out⟩, HB2.out⟩
    · obtain rfl : n = k := by omega
      go_wp2
      go_ret
      exact ⟨-1, rfl, .inr ⟨rfl, fun j h => HK.out j h⟩, HB.out⟩
set_option maxRecDepth 100000 in
theorem containsB_any {g : Nat} {caps : Array Value} (hent : ∀ args w, (callFunc g args).run Tryz.prog w = .ok (.enter g args) w) {f : Nat → Bool} {v : Value} {bs : List BB} {n : Nat} {w : World} (hv : BL w v bs) (hn : bs.length = n) (hf : ∀ k, k < n → ∀ W, Below w.heap.size w W → Calls Tryz.prog g (#[bV (bAt bs k)] ++ caps) W (BoolPost W (f k))) : Calls Tryz.prog 53 #[v, .func (.func g) #[] caps] w (AnyPost w n f) := by
  have HI := Lib.hid (indexB_any hent hv hn hf)
  go_enter Tryz.func53, Tryz.ntmps53
  go_wp2_with fail
  refine HI.out.mono ?_
  rintro e w2 ⟨i, rfl, hE, hb⟩
  have HB := Lib.hid hb
  rcases hE with ⟨h0, h⟩ | ⟨rfl, h⟩
  · have HE := Lib.hid h
    have h0d : decide (0 ≤ i) = true := decide_eq_true h0
    clear h hb
    go_wp2
    go_ret
    exact ⟨true, by simp, .inl ⟨rfl, HE.out⟩, HB.out⟩
  · have HE := Lib.hid h
    clear h hb
    go_wp2
    go_ret
    exact ⟨false, by simp, .inr ⟨rfl, HE.out⟩, HB.out⟩
set_option maxRecDepth 100000 in
theorem containsP_any {g : Nat} {caps : Array Value} (hent : ∀ args w, (callFunc g args).run Tryz.prog w = .ok (.enter g args) w) {f : Nat → Bool} {v : Value} {ps : List PP} {n : Nat} {w : World} (hv : PL w v ps) (hn : ps.length = n) (hf : ∀ k (h : k < ps.length), ∀ W, Below w.heap.size w W → Calls Tryz.prog g (#[pV ps[k].1 ps[k].2] ++ caps) W (BoolPost W (f k))) : Calls Tryz.prog 101 #[v, .func (.func g) #[] caps] w (AnyPost w n f) := by
  have HI := Lib.hid (indexP_any hent hv hn hf)
  go_enter Tryz.func101, Tryz.ntmps101
  go_wp2_with fail
  refine HI.out.mono ?_
  rintro e w2 ⟨i, rfl, hE, hb⟩
  have HB := Lib.hid hb
  rcases hE with ⟨h0, h⟩ | ⟨rfl, h⟩
  · have HE := Lib.hid h
    have h0d : decide (0 ≤ i) = true := decide_eq_true h0
    clear h hb
    go_wp2
    go_ret
    exact ⟨true, by simp, .inl ⟨rfl, HE.out⟩, HB.out⟩
  · have HE := Lib.hid h
    clear h hb
    go_wp2
    go_ret
    exact ⟨false, by simp, .inr ⟨rfl, HE.out⟩, HB.out⟩
end Go.Proofs.YtcncdepjbhnknaaGreatDoor
/- detect's short: are fractions valid, and of few digits? CheckCurve's closure over it. -/
namespace Go.Proofs.YtcncdepjbhnknaaGreatDoor
open Go.RowKit Go.Shelf
attribute [local go_sem ↓] Go.wp_at_zero Go.wp_at_succ

set_option maxRecDepth 100000 in
set_option maxHeartbeats 2000000 in
theorem dshort1_any (k B : Nat) (s t : ByteArray) (hs : s.size ≤ 1000000) (ht : t.size ≤ 1000000) (w : World) (hB : w.cell? ⟨B, 0, none⟩ = some (.int .i64 k)) :
    Calls Tryz.prog 102 #[pV s t, .pointer (some ⟨B, 0, none⟩)] w (BoolPost w (!smallP k (s, t))) := by
  have HAL := Lib.hid ((Below.refl w.heap.size w).alloc (Nat.le_refl _) (pObj s t))
  have hBl := World.block_lt_of_cell? _ _ hB
  have hBc : (w.alloc (pObj s t)).cell? ⟨B, 0, none⟩ = some (.int .i64 k) := (cell_old _ _ _ hBl).trans hB
  by_cases h1 : (k : Int) < s.size
  · have HR : Hid (smallP k (s, t) = false) := by
      show _ = _
      unfold smallP
      rw [decide_eq_false (p := (s, t).1.size ≤ k) (by show ¬ s.size ≤ k; omega)]
      simp
    go_enter Tryz.func102, Tryz.ntmps102
    go_wp2
    go_ret
    exact ⟨by rw [HR.out]; rfl, HAL.out⟩
  · by_cases h2 : (k : Int) < t.size
    · have HR : Hid (smallP k (s, t) = false) := by
        show _ = _
        unfold smallP
        rw [decide_eq_false (p := (s, t).2.size ≤ k) (by show ¬ t.size ≤ k; omega)]
        simp
      go_enter Tryz.func102, Tryz.ntmps102
      go_wp2
      go_ret
      exact ⟨by rw [HR.out]; rfl, HAL.out⟩
    · cases h3 : okP s t
      · have HR : Hid (smallP k (s, t) = false) := by unfold smallP; show _ = _; simp [h3]
        have HE := Lib.hid (okE_no h3)
        clear h3
        go_enter Tryz.func102, Tryz.ntmps102
        go_wp2_with fail
        refine (check_any s t _ hs ht).mono ?_
        rintro e w2 ⟨rfl, hb⟩
        rw [HE.out]
        have HB2 := Lib.hid (HAL.out.trans (hb.mono HAL.out.size))
        clear hb
        go_wp2
        go_ret
        exact ⟨by rw [HR.out]; rfl, HB2.out⟩
      · have HR : Hid (smallP k (s, t) = true) := by unfold smallP; show _ = _; simp [h3]; omega
        have HE := Lib.hid (okE_yes h3)
        clear h3
        go_enter Tryz.func102, Tryz.ntmps102
        go_wp2_with fail
        refine (check_any s t _ hs ht).mono ?_
        rintro e w2 ⟨rfl, hb⟩
        rw [HE.out]
        have HB2 := Lib.hid (HAL.out.trans (hb.mono HAL.out.size))
        clear hb
        go_wp2
        go_ret
        exact ⟨by rw [HR.out]; rfl, HB2.out⟩
/-- Fractions that are no longer than a check looks at. -/
def LimP (ps : List PP) : Prop := ∀ p ∈ ps, p.1.size ≤ 1000000 ∧ p.2.size ≤ 1000000
set_option maxRecDepth 100000 in
set_option maxHeartbeats 2000000 in
theorem dshort_any (k : Nat) (hk : k ≤ 1000) {v : Value} {ps : List PP} {w : World} (hv : PL w v ps) (hz : LimP ps) :
    Calls Tryz.prog 55 #[.int .i64 k, v] w (BoolPost w (ps.all (smallP k))) := by
  obtain ⟨n, hn⟩ : ∃ n, ps.length = n := ⟨_, rfl⟩
  obtain ⟨p, c, rfl⟩ : ∃ p c, v = .slice p n c := by obtain ⟨p, c, h, _⟩ := id hv; exact ⟨_, _, by rw [← hn]; exact h⟩
  have hal := (Below.refl w.heap.size w).alloc (Nat.le_refl _) (.cells #[.int .i64 k] 3)
  have HAL := Lib.hid hal
  have HC : Hid (Calls Tryz.prog 101 #[.slice p n c, .func (.func 102) #[] #[.pointer (some ⟨w.heap.size, 0, none⟩)]] (w.alloc (.cells #[.int .i64 k] 3))
      (AnyPost (w.alloc (.cells #[.int .i64 k] 3)) n (fun j => !smallP k (ps.getD j (⟨#[]⟩, ⟨#[]⟩))))) := by
    refine containsP_any (enters_of Tryz.func102 (by kernel_rfl) rfl) (hv.after hal (Nat.le_refl _)) hn fun j hj W hW => ?_
    obtain ⟨z1, z2⟩ := hz _ (List.getElem_mem hj)
    have e : ps.getD j (⟨#[]⟩, ⟨#[]⟩) = ps[j] := by simp [List.getD, hj]
    rw [e]
    exact dshort1_any k w.heap.size ps[j].1 ps[j].2 z1 z2 W ((hW.cell (by simp)).trans (cell_new _ _ _ _ rfl))
  have HR : Hid ((∃ j, j < n ∧ (!smallP k (ps.getD j (⟨#[]⟩, ⟨#[]⟩))) = true) → ps.all (smallP k) = false) := by
    rintro ⟨j, hj, h⟩
    have hj2 : j < ps.length := by rw [hn]; exact hj
    have e : ps.getD j (⟨#[]⟩, ⟨#[]⟩) = ps[j] := by simp [List.getD, hj2]
    rw [e] at h
    rw [← Bool.not_eq_true, List.all_eq_true]
    intro hall
    rw [hall _ (List.getElem_mem hj2)] at h
    cases h
  have HR2 : Hid ((∀ j, j < n → (!smallP k (ps.getD j (⟨#[]⟩, ⟨#[]⟩))) = false) → ps.all (smallP k) = true) := by
    intro h
    rw [List.all_eq_true]
    intro q hq
    obtain ⟨j, hj, rfl⟩ := List.getElem_of_mem hq
    have := h j (by rw [← hn]; exact hj)
    have e : ps.getD j (⟨#[]⟩, ⟨#[]⟩) = ps[j] := by simp [List.getD, hj]
    rw [e] at this
    simpa using this
  clear hal hv hz hn
  go_enter Tryz.func55, Tryz.ntmps55
  go_wp2_with fail
  refine HC.out.mono ?_
  rintro e w2 ⟨b, rfl, h, hb⟩
  have HB2 := Lib.hid (HAL.out.trans (hb.mono HAL.out.size))
  have HE := Lib.hid h
  clear h hb HC HAL
  go_wp2
  go_ret
  refine ⟨?_, HB2.out⟩
  rcases HE.out with ⟨rfl, h⟩ | ⟨rfl, h⟩
  · rw [HR.out h]; rfl
  · rw [HR2.out h]; rfl
set_option maxRecDepth 100000 in
set_option maxHeartbeats 2000000 in
theorem checkCurve1_any (s t u v : ByteArray) (hs : s.size ≤ 1000000) (ht : t.size ≤ 1000000) (hu : u.size ≤ 1000000) (hv : v.size ≤ 1000000) (w : World) :
    Calls Tryz.prog 54 #[.agg #[.string s, .string t, .string u, .string v]] w (BoolPost w (!(smallP 18 (s, t) && smallP 18 (u, v)))) := by
  obtain ⟨w1, hw1⟩ : ∃ z, w.alloc (bO s t u v) = z := ⟨_, rfl⟩
  have hb1 : Below w.heap.size w w1 := by rw [← hw1]; exact (Below.refl w.heap.size w).alloc (Nat.le_refl _) _
  have hal := (Below.refl w1.heap.size w1).alloc (Nat.le_refl _) (.cells #[.string s, .string t, .string u, .string v] 46)
  have HAL := Lib.hid (hb1.trans (hal.mono hb1.size))
  have hc := dshort_any 18 (by decide) (pl_two w1 s t u v) (by
    intro p hp
    simp only [List.mem_cons, List.not_mem_nil, or_false] at hp
    rcases hp with rfl | rfl
    · exact ⟨hs, ht⟩
    · exact ⟨hu, hv⟩)
  rw [← hw1, World.size_alloc] at hc
  rw [← hw1] at HAL
  have HC : Hid (Calls Tryz.prog 55 #[.int .i64 18, .slice (some ⟨w.heap.size + 1, 0, none⟩) 2 2] ((w.alloc (bO s t u v)).alloc (.cells #[.string s, .string t, .string u, .string v] 46))
    (BoolPost ((w.alloc (bO s t u v)).alloc (.cells #[.string s, .string t, .string u, .string v] 46)) ([(s, t), (u, v)].all (smallP 18)))) := hc
  clear hal hb1 hw1 hs ht hu hv hc
  go_enter Tryz.func54, Tryz.ntmps54
  go_wp2_with fail
  refine HC.out.mono ?_
  rintro e w2 ⟨rfl, hb⟩
  have HB2 := Lib.hid (HAL.out.trans (hb.mono HAL.out.size))
  clear hb HC HAL
  go_wp2
  go_ret
  exact ⟨by simp, HB2.out⟩
end Go.Proofs.YtcncdepjbhnknaaGreatDoor
/- detect's pairs: the closure yields each bend with the next one. -/
namespace Go.Proofs.YtcncdepjbhnknaaGreatDoor
open Go.RowKit Go.Shelf
attribute [local go_sem] Oper.semAt_some

/-- The cells of the bends at an address. -/
def BCells (b off n : Nat) (bs : List BB) (W : World) : Prop := ∀ k, k < n →
  W.cell? ⟨b, off + k * 4, none⟩ = some (.string (bAt bs k).1.1) ∧ W.cell? ⟨b, off + k * 4 + 1, none⟩ = some (.string (bAt bs k).1.2) ∧ W.cell? ⟨b, off + k * 4 + 2, none⟩ = some (.string (bAt bs k).2.1) ∧ W.cell? ⟨b, off + k * 4 + 3, none⟩ = some (.string (bAt bs k).2.2)
theorem BCells.keeps {b off n : Nat} {bs : List BB} {S : Nat → Prop} {w w' : World} (h : BCells b off n bs w) (hk : Keeps S w w') (hs : S b) : BCells b off n bs w' :=
  fun k hl => ⟨hk.cellAt (h k hl).1 hs, hk.cellAt (h k hl).2.1 hs, hk.cellAt (h k hl).2.2.1 hs, hk.cellAt (h k hl).2.2.2 hs⟩
set_option maxRecDepth 100000 in
set_option maxHeartbeats 4000000 in
/-- The closure that pairs hands back. -/
theorem pairs_iter (Bs b off n cap : Nat) (S : Nat → Prop) (bs : List BB) (h1 : 2 ≤ n) (hl : n ≤ 64) (hcap : n ≤ cap) (hmax : cap ≤ 9223372036854775807) (w0 : World) (hS : S Bs) (hSb : S b)
    (hBs : w0.cell? ⟨Bs, 0, none⟩ = some (.slice (some ⟨b, off, none⟩) n cap)) (hp : BCells b off n bs w0) :
    Iter Tryz.prog 103 #[.pointer (some ⟨Bs, 0, none⟩)] (fun k => #[bV (bAt bs k), bV (bAt bs (k + 1))]) (n - 1) S (fun _ => True) w0 := by
  intro m l J Jx W hK hJ hJx hY h0
  have hB1 : W.cell? ⟨Bs, 0, none⟩ = some (.slice (some ⟨b, off, none⟩) n cap) := hK.cellAt hBs hS
  have HP : Hid (BCells b off n bs W) := hp.keeps hK hSb
  have HY := Lib.hid hY
  have HJ := Lib.hid hJ
  clear hp hY hBs hJ
  obtain ⟨r, rfl⟩ : ∃ r, n = r + 1 := ⟨n - 1, by omega⟩
  rw [Nat.add_sub_cancel] at *
  have hc1 : ¬ cap = 1 := by omega
  refine callsIn_of_wp Tryz.func103 rfl trivial ?_ rfl
  simp only [Tryz.ntmps103, List.size_toArray, List.length_cons, List.length_nil, Nat.reduceAdd, Nat.reduceSub, Array.replicate_succ, Array.replicate_zero, List.push_toArray, List.append_toArray, List.nil_append, List.cons_append]
  gi_wp2
  gi_loopw [7] (fun iv wr => ∃ k : Nat, iv = .int .i64 k ∧ k ≤ r ∧ J k wr ∧ Hid (Keeps S W wr)) (fun iv _ => r - (intOf iv).toNat)
  case atStart => exact ⟨0, rfl, Nat.zero_le _, h0, Keeps.refl _ _⟩
  case round =>
    obtain ⟨k, rfl, hk, hJs, HN⟩ := hrel
    have hB2 : wr.drew.cell? ⟨Bs, 0, none⟩ = some (.slice (some ⟨b, off, none⟩) (r + 1) cap) := (HN.out.drew).cellAt hB1 hS
    by_cases hlt : k < r
    · obtain ⟨s, hs⟩ : ∃ z, bAt bs k = z := ⟨_, rfl⟩
      obtain ⟨t, ht⟩ : ∃ z, bAt bs (k + 1) = z := ⟨_, rfl⟩
      obtain ⟨⟨s0, s1⟩, s2, s3⟩ := s
      obtain ⟨⟨t0, t1⟩, t2, t3⟩ := t
      have hcl := HP.out.keeps HN.out.drew hSb
      obtain ⟨a0, a1, a2, a3⟩ := hcl k (by omega)
      obtain ⟨b0, b1, b2, b3⟩ := hcl (k + 1) (by omega)
      rw [hs] at a0 a1 a2 a3
      rw [ht] at b0 b1 b2 b3
      simp only at a0 a1 a2 a3 b0 b1 b2 b3
      have hJd := HJ.out _ _ _ hJs (Keeps.refl (fun _ => True) wr).drew
      obtain ⟨fn, tmps, assign, body, hy, hR⟩ := HY.out k wr.drew hlt hJd
      rw [hs, ht] at hy
      simp only [bV] at hy
      clear hcl hs ht hJs hJd
      have e1 : IntKind.i64.wrap ((k : Int) + 1) = ((k + 1 : Nat) : Int) := by rw [IntWalk.i64_in _ (by omega)]; rfl
      have i1 : (k : Int) < (r : Int) + 1 := by omega
      have i2 : ((k + 1 : Nat) : Int) < (r : Int) + 1 := by omega
      gi_wp2
      refine fsteps_plain [(true, 0), (true, 1), (true, 2), (true, 3), (true, 4), (true, 5), (true, 6), (true, 7), (true, 8), (true, 9), (false, 10), (false, 11)] (fun w' => w' = wr.drew) (fun j => j == 10 || j == 11) rfl (by kernel_rfl) (by kernel_rfl) (fun j hj => by simp at hj ⊢; omega)
        (fun _ _ o _ _ h => by cases o <;> exact h) rfl ?_
      iterate 10
        refine fsteps_read _ rfl rfl (fun _ => rfl) (fun w' hS => by subst hS; go_simp; first | rfl | (simp only [e1, i1, i2, Int.natCast_nonneg, Int.toNat_natCast, and_self, if_true]; rfl)) ?_
        simp only [Act.put, List.setIfInBounds_toArray, List.set_cons_zero, List.set_cons_succ]
      refine fsteps_write rfl rfl fun K hK => ?_
      go_simp
      refine ⟨(fun h => by cases h), hR.mono ?_⟩
      rintro e W3 (⟨rfl, hJ3, hk3⟩ | ⟨rfl, hJx3⟩)
      · have HN3 := Lib.hid (HN.out.drew.trans hk3)
        clear hk3 a0 a1 a2 a3 b0 b1 b2 b3 hy hR
        refine hK _ _ (.inl rfl) ?_
        clear hK K
        refine fsteps_write rfl rfl fun K hK => ?_
        go_simp
        refine hK _ _ (.inl rfl) ?_
        clear hK K
        refine fsteps_end ?_
        gi_wp2
        go_roundw
        case rel => exact ⟨k + 1, by go_num, by omega, hJ3, HN3⟩
        case measure => simp [intOf]; omega
      · clear a0 a1 a2 a3 b0 b1 b2 b3 hy hR
        refine hK _ _ (.inl rfl) ?_
        clear hK K
        refine fsteps_write rfl rfl fun K hK => ?_
        go_simp
        refine hK _ _ (.inl rfl) ?_
        clear hK K
        refine fsteps_end ?_
        gi_wp2
        refine bodyPost_ret (results_none rfl _ _ _) rfl ?_
        exact ⟨⟨_, rfl⟩, .inr ⟨k, hlt, hJx3⟩⟩
    · obtain rfl : k = r := by omega
      gi_wp2
      go_end0
      exact ⟨⟨_, rfl⟩, .inl hJs⟩
set_option maxHeartbeats 1000000 in
/-- pairs(l): the slice is boxed; the function value captures the box. -/
theorem pairs_any (p : Option Addr) (len cap : Nat) (w : World) :
    Calls Tryz.prog 56 #[.slice p len cap] w fun e w' => e = .returned (.func (.func 103) #[] #[.pointer (some ⟨w.heap.size, 0, none⟩)]) ∧ w' = w.alloc (.cells #[.slice p len cap] 34) := by
  go_enter Tryz.func56, Tryz.ntmps56
  go_wp2
  go_ret
  exact ⟨rfl, rfl⟩
end Go.Proofs.YtcncdepjbhnknaaGreatDoor
