/- The parts RowList of a proof, put together by program (merge.py). -/
import Derived.Test.YthbpadjhlkdpeaaGreatDoorG18
import Derived.Test.YthbpadjhlkdpeaaGreatDoorG13
import Derived.Deep.SlicePairs
/- Lists of fractions as arguments. -/
namespace Go.Proofs.YthbpadjhlkdpeaaGreatDoor
open Go.ChangeShapes Go.WideShapes Go.ChangeAt Go.RowKit

set_option maxRecDepth 100000 in
theorem open_parts_form {H : Type} {enc : TypeId × Value → H} {W : World} {base b0 : Nat} {sp : Nat → Bool} {held : Bool} {v : Value} {d : DataW H} {p : List MemPlace} (hv : Value.okWide Tryz.prog W .any b0 34 v)
    (h : DataW.Trod enc Tryz.prog W base sp held 34 v d p) : ∃ ps : List PP, PL W v ps ∧ (v = .slice none 0 0 ∨ ∃ ad m c, v = .slice (some ad) m c) := by
  obtain ⟨a0, len, cap, rfl⟩ := okWide_slice Tryz.underlying34 hv
  obtain ⟨fuel, hf⟩ := h
  rcases Deep.open_slice_pairs Tryz.underlying34 Tryz.underlying24 (by kernel_rfl) rfl rfl (by kernel_rfl) (by kernel_rfl) hf with ⟨hcs, _⟩ | ⟨a, len', cap', m, n, V0, V1, D0, D1, P0, P1, hcs, _, hl, hm, hmm, _, hx⟩
  · simp only [Value.cells, List.cons.injEq, Value.slice.injEq, and_true] at hcs
    obtain ⟨rfl, rfl, rfl⟩ := hcs
    exact ⟨[], PL.nil W, .inl rfl⟩
  · simp only [Value.cells, List.cons.injEq, Value.slice.injEq, and_true] at hcs
    obtain ⟨rfl, rfl, rfl⟩ := hcs
    have hlm : len ≤ m := by rw [hmm]; split <;> omega
    have each : ∀ i, i < len → ∃ q : PP, W.cell? (a.add (i * 2)) = some (.string q.1) ∧ W.cell? (a.add (i * 2 + 1)) = some (.string q.2) := by
      intro i hi
      obtain ⟨k0, k1, k2, k3⟩ := hx i (by omega)
      obtain ⟨s, e0, _, _⟩ := DataW.trod_string Tryz.underlying22 k2
      obtain ⟨t, e1, _, _⟩ := DataW.trod_string Tryz.underlying22 k3
      simp only [List.cons.injEq, and_true] at e0 e1
      rw [e0] at k0
      rw [e1] at k1
      exact ⟨(s, t), k0, k1⟩
    obtain ⟨q, hq⟩ := Deep.choose_lt each
    obtain ⟨b, off, spot⟩ := a
    refine ⟨(List.range len).map q, ⟨some ⟨b, off, spot⟩, cap, by simp, by simpa using hl, hm, fun hne => ?_⟩, .inr ⟨_, _, _, rfl⟩⟩
    have h0 : 0 < len := by
      rcases Nat.eq_zero_or_pos len with h | h
      · subst h; exact absurd rfl hne
      · exact h
    have hspot : spot = none := by simpa [Addr.add] using World.cell?_spot (hq 0 h0).1
    subst hspot
    refine ⟨b, off, rfl, World.block_lt_of_cell? _ _ (hq 0 h0).1, fun j hj => ?_⟩
    have hj' : j < len := by simpa using hj
    obtain ⟨c0, c1⟩ := hq j hj'
    have e : ((List.range len).map q)[j] = q j := by simp
    rw [e]
    rw [add_plain] at c0 c1
    exact ⟨c0, c1⟩
set_option maxRecDepth 100000 in
theorem open_parts {H : Type} {enc : TypeId × Value → H} {W : World} {base b0 : Nat} {sp : Nat → Bool} {held : Bool} {v : Value} {d : DataW H} {p : List MemPlace} (hv : Value.okWide Tryz.prog W .any b0 34 v)
    (h : DataW.Trod enc Tryz.prog W base sp held 34 v d p) : ∃ ps : List PP, PL W v ps := by
  obtain ⟨ps, h, _⟩ := open_parts_form hv h
  exact ⟨ps, h⟩
end Go.Proofs.YthbpadjhlkdpeaaGreatDoor
