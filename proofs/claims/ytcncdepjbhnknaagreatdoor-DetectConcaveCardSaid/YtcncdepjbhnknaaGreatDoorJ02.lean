/- The parts ROrder, RMinus, RTimes, ROver, RNat of a proof, put together by program (merge6.py). -/
import Derived.Test.YtcncdepjbhnknaaGreatDoorJ01
import Derived.Test.YtcncdepjbhnknaaGreatDoorH03
import Derived.Test.YtcncdepjbhnknaaGreatDoorH02
set_option linter.unusedVariables false
set_option linter.unusedSimpArgs false
namespace Go.Proofs.YtcncdepjbhnknaaGreatDoor
open Go.RowKit

end Go.Proofs.YtcncdepjbhnknaaGreatDoor
namespace Go.Proofs.YtcncdepjbhnknaaGreatDoor
open Go.RowKit
end Go.Proofs.YtcncdepjbhnknaaGreatDoor
namespace Go.Proofs.YtcncdepjbhnknaaGreatDoor
open Go.RowKit

end Go.Proofs.YtcncdepjbhnknaaGreatDoor
namespace Go.Proofs.YtcncdepjbhnknaaGreatDoor
open Go.RowKit

theorem at_only {k : IntKind} {w : World} {b off : Nat} {xs ys : List Nat} (h1 : At k w b off xs) (h2 : At k w b off ys) (hl : xs.length = ys.length) : xs = ys := by
  refine List.ext_getElem hl fun j h3 h4 => ?_
  have h5 := (h1 j h3).symm.trans (h2 j h4)
  injection h5 with h5
  injection h5 with _ h5
  omega
theorem PNum.unique {w : World} {v : Value} {n m : Nat} (h10 : PNum w v n) (h20 : PNum w v m) : n = m := by
  obtain ⟨p1, c1, rfl, _, _, h1⟩ := h10.1
  obtain ⟨p2, c2, hv, _, _, h2⟩ := h20.1
  injection hv with e1 e2 e3
  have : limbs 10000 n = limbs 10000 m := by
    by_cases hn : limbs 10000 n = []
    · rw [hn] at e2 ⊢
      exact (List.eq_nil_of_length_eq_zero e2.symm).symm
    · have hm : limbs 10000 m ≠ [] := fun h => by rw [h] at e2; exact hn (List.eq_nil_of_length_eq_zero e2)
      obtain ⟨b1, o1, rfl, _, a1⟩ := h1 hn
      obtain ⟨b2, o2, hb, _, a2⟩ := h2 hm
      rw [← e1] at hb
      injection hb with hb
      injection hb with hb1 hb2
      subst hb1; subst hb2
      exact at_only a1 a2 e2
  have h3 := congrArg (val 10000) this
  rwa [val_limbs (by omega), val_limbs (by omega)] at h3
end Go.Proofs.YtcncdepjbhnknaaGreatDoor
namespace Go.Proofs.YtcncdepjbhnknaaGreatDoor
open Go.RowKit

theorem all_true {l : List UInt8} (h : ∀ j (hj : j < l.length), isDig l[j] = true) : l.all isDig = true := by
  rw [List.all_eq_true]
  intro x hx
  obtain ⟨j, hj, rfl⟩ := List.getElem_of_mem hx
  exact h j hj
def DigTo (s : ByteArray) (k : Nat) : Prop := ∀ j (h : j < s.data.toList.length), j < k → isDig s.data.toList[j] = true
theorem DigTo.start (s : ByteArray) : DigTo s 0 := by
  intro j _ h
  exact absurd h (by omega)
theorem DigTo.done {s : ByteArray} (h : DigTo s s.size) : s.data.toList.all isDig = true := all_true fun j hj => h j hj (by have h2 := hj; rw [size_len] at h2; exact h2)
end Go.Proofs.YtcncdepjbhnknaaGreatDoor
