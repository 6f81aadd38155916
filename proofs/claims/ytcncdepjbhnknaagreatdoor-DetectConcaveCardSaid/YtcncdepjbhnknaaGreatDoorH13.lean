/- The parts Float of a proof, put together by program (merge6.py). -/
import Derived.Test.YtcncdepjbhnknaaGreatDoorH12
set_option linter.unusedVariables false
set_option linter.unusedSimpArgs false
/- A region that draws its order, in which one operation (a variable's block being laid) may come at any time between the others, whose order is forced: the others in an order that is named; each read taken first as soon as it can come up. -/
namespace Go.Proofs.YtcncdepjbhnknaaGreatDoor
open Go.RowKit

section
variable {P : Program} {ops : Array Oper} {Q : Exit → Act → World → Prop} {md : Region.Mode} {S : World → Prop}

/-- The operations in the order that is named, fl still to come: ahead of tl. -/
def stepsF (P : Program) (ops : Array Oper) (Q : Exit → Act → World → Prop) (S : World → Prop) (fl : Nat) (tl : List (Bool × Nat)) : List (Bool × Nat) → Act → World → Prop
  | [], a, w => ∃ o, ops[fl]? = some o ∧ Region.wanted o (yielded ops a.tmps) = true ∧ o.wp P a w (fun a' w' => S w' ∧ steps P ops Q S (fun _ => false) tl a' w') Q
  | (true, i) :: ks, a, w => ∃ o v, ops[i]? = some o ∧ YieldsIf P ops S o v a ∧ stepsF P ops Q S fl tl ks (a.put o.dst v) w
  | (false, i) :: ks, a, w => (∃ o, ops[fl]? = some o ∧ Region.wanted o (yielded ops a.tmps) = true ∧ o.wp P a w (fun a' w' => S w' ∧ steps P ops Q S (fun _ => false) ((false, i) :: (ks ++ tl)) a' w') Q) ∧
      ∃ o, ops[i]? = some o ∧ Region.wanted o (yielded ops a.tmps) = true ∧ o.wp P a w (fun a' w' => S w' ∧ stepsF P ops Q S fl tl ks a' w') Q
/-- The closed facts. -/
def stepsFB (md : Region.Mode) (ops : Array Oper) (fl : Nat) (tl : List (Bool × Nat)) : List (Bool × Nat) → Array Bool → Bool
  | [], listed => decide (Region.ready md ops listed = [fl]) && stepsB md ops (fun _ => false) tl (listed.setIfInBounds fl true)
  | (true, k) :: ks, listed => (Region.ready md ops listed).contains k && Region.free md ops listed k && stepsFB md ops fl tl ks (listed.setIfInBounds k true)
  | (false, k) :: ks, listed => (Region.ready md ops listed).contains k && (Region.ready md ops listed).all (fun j => decide (j = k) || decide (j = fl)) && stepsB md ops (fun _ => false) ((false, k) :: (ks ++ tl)) (listed.setIfInBounds fl true) && stepsFB md ops fl tl ks (listed.setIfInBounds k true)

theorem wpOp_take {i : Nat} {o : Oper} {K : Act → World → Prop} {a : Act} {w : World} (h0 : ops[i]? = some o) (hw : Region.wanted o (yielded ops a.tmps) = true) (h : o.wp P a w K Q) : wpOp P ops Q i K a w := by
  unfold wpOp
  simp only [h0]
  simp only [hw, if_true]
  exact .inl h
theorem wpJ_of_stepsF (hsel : Region.noSelect ops = true) (hQ : ∀ c a o v w, Q (.panic c) (a.put o v) w → Q (.panic c) a w) {fl : Nat} {tl : List (Bool × Nat)} :
    ∀ (ks : List (Bool × Nat)) (listed : Array Bool) (a : Act) (w : World), stepsFB md ops fl tl ks listed = true → S w → stepsF P ops Q S fl tl ks a w → wpJ P md ops Q S (fun _ => false) ((ks ++ tl).length + 1) listed a w
  | [], listed, a, w, hB, hS, h => by
    simp only [stepsFB, Bool.and_eq_true, decide_eq_true_eq] at hB
    obtain ⟨hr, hr2⟩ := hB
    obtain ⟨o, h0, hw, h⟩ := h
    refine ⟨fun h1 => (by rw [hr] at h1; cases h1), fun i hi => ?_⟩
    rw [hr] at hi
    obtain rfl : i = fl := by simpa using hi
    exact wpOp_take h0 hw (Oper.wp_mono (fun a' w' h' => ⟨.inr h'.1, wpJ_of_steps hsel hQ (fun _ _ => rfl) tl _ a' w' hr2 (.inl h'.1) h'.2⟩) h)
  | (true, k) :: ks, listed, a, w, hB, hS, h => by
    simp only [stepsFB, Bool.and_eq_true] at hB
    obtain ⟨⟨hr, hf⟩, hB'⟩ := hB
    obtain ⟨o, v, h0, hy, hrest⟩ := h
    have ih := wpJ_of_stepsF hsel hQ ks (listed.setIfInBounds k true) (a.put o.dst v) w hB' hS hrest
    rw [List.cons_append, List.length_cons]
    exact wpJ_first h0 hsel (fun c a w => hQ c a o.dst v w) (fun j hj _ => by cases hj) rfl ((ks ++ tl).length + 1) listed a w (Region.free_spec h0 hf) (by simpa using hr) hy hS ih
  | (false, k) :: ks, listed, a, w, hB, hS, h => by
    simp only [stepsFB, Bool.and_eq_true] at hB
    obtain ⟨⟨⟨hr, hall⟩, hB1⟩, hB2⟩ := hB
    obtain ⟨⟨of, hf0, hfw, hf⟩, o, h0, hw, h⟩ := h
    refine ⟨fun h1 => (by rw [h1] at hr; simp at hr), fun i hi => ?_⟩
    rw [List.all_eq_true] at hall
    have hik := hall i hi
    simp only [Bool.or_eq_true, decide_eq_true_eq] at hik
    by_cases e : i = k
    · subst e
      exact wpOp_take h0 hw (Oper.wp_mono (fun a' w' h' => ⟨.inr h'.1, wpJ_of_stepsF hsel hQ ks _ a' w' hB2 h'.1 h'.2⟩) h)
    · have e2 : i = fl := by
        rcases hik with h | h
        · exact absurd h e
        · exact h
      subst e2
      exact wpOp_take hf0 hfw (Oper.wp_mono (fun a' w' h' => ⟨.inr h'.1, wpJ_of_steps hsel hQ (fun _ _ => rfl) ((false, k) :: (ks ++ tl)) _ a' w' hB1 (.inl h'.1) h'.2⟩) hf)

def floatOk (l : List Oper) (fl : Nat) (tl ks : List (Bool × Nat)) : Bool :=
  Region.noSelect l.toArray && decide ((ks ++ tl).length + 1 = l.length) && stepsFB .any l.toArray fl tl ks (Array.replicate l.toArray.size false) && noDefer l.toArray
theorem float_plain {id : Nat} {a : Act} {w : World} {l : List Oper} (fl : Nat) (tl ks : List (Bool × Nat)) (S : World → Prop) (hm : P.follows .mixedOrders = true)
    (hB : floatOk l fl tl ks = true) (hQ : ∀ c a o v w, Q (.panic c) (a.put o v) w → Q (.panic c) a w) (hS : S w.drew)
    (H : stepsF P l.toArray Q S fl tl ks a w.drew) : (Code.region id l.toArray true).wp P Q a w := by
  simp only [floatOk, Bool.and_eq_true, decide_eq_true_eq] at hB
  obtain ⟨⟨⟨hsel, hn⟩, hf⟩, _⟩ := hB
  have := wpAny_of_J _ _ _ _ (wpJ_of_stepsF hsel hQ ks _ a w.drew hf hS H)
  rw [hn] at this
  exact wp_region_any hm (by simpa using this)

theorem float_read {fl i : Nat} {tl : List (Bool × Nat)} {o : Oper} {ks : List (Bool × Nat)} {a : Act} {w : World} (v : Value) (ho : ops[i]? = some o) (hw : Region.wanted o (yielded ops a.tmps) = true) (hv : ∀ w, S w → (execOp a.eval o).run P w = .ok (.value v) w)
    (h : stepsF P ops Q S fl tl ks (a.put o.dst v) w) : stepsF P ops Q S fl tl ((true, i) :: ks) a w := ⟨o, v, ho, .inl ⟨hw, hv⟩, h⟩
/-- First the orders in which fl comes now, then the others. -/
theorem float_write {fl i : Nat} {tl : List (Bool × Nat)} {o of : Oper} {ks : List (Bool × Nat)} {a : Act} {w : World} (hof : ops[fl]? = some of) (hwf : Region.wanted of (yielded ops a.tmps) = true) (ho : ops[i]? = some o) (hw : Region.wanted o (yielded ops a.tmps) = true)
    (hf : ∀ K : Act → World → Prop, (∀ a' w', S w' → steps P ops Q S (fun _ => false) ((false, i) :: (ks ++ tl)) a' w' → K a' w') → of.wp P a w K Q)
    (h : ∀ K : Act → World → Prop, (∀ a' w', S w' → stepsF P ops Q S fl tl ks a' w' → K a' w') → o.wp P a w K Q) : stepsF P ops Q S fl tl ((false, i) :: ks) a w :=
  ⟨⟨of, hof, hwf, hf _ fun _ _ h1 h2 => ⟨h1, h2⟩⟩, o, ho, hw, h _ fun _ _ h1 h2 => ⟨h1, h2⟩⟩
theorem float_last {fl : Nat} {tl : List (Bool × Nat)} {of : Oper} {a : Act} {w : World} (hof : ops[fl]? = some of) (hwf : Region.wanted of (yielded ops a.tmps) = true)
    (hf : ∀ K : Act → World → Prop, (∀ a' w', S w' → steps P ops Q S (fun _ => false) tl a' w' → K a' w') → of.wp P a w K Q) : stepsF P ops Q S fl tl [] a w :=
  ⟨of, hof, hwf, hf _ fun _ _ h1 h2 => ⟨h1, h2⟩⟩
end
end Go.Proofs.YtcncdepjbhnknaaGreatDoor
