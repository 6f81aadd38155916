/- The parts RTwo2, Not of a proof, put together by program (merge6.py). -/
import Derived.Test.YtcncdepjbhnknaaGreatDoorJ04
import Derived.Test.YtcncdepjbhnknaaGreatDoorH12
set_option linter.unusedVariables false
set_option linter.unusedSimpArgs false
namespace Go.Proofs.YtcncdepjbhnknaaGreatDoor
open Go.RowKit Go.Shelf
attribute [local go_sem ↓] Go.wp_at_zero Go.wp_at_succ
end Go.Proofs.YtcncdepjbhnknaaGreatDoor
namespace Go.Proofs.YtcncdepjbhnknaaGreatDoor
open Go.RowKit Go.Shelf
attribute [local go_sem ↓] Go.wp_at_zero Go.wp_at_succ



theorem PartPost.mono {R R' : ByteArray → ByteArray → Int → Prop} {w w' : World} {e : Ending} (h : PartPost R w e w') (f : ∀ x y n, R x y n → R' x y n) : PartPost R' w e w' := by
  obtain ⟨x, y, n, h1, h2, h3⟩ := h
  exact ⟨x, y, n, h1, f x y n h2, h3⟩
end Go.Proofs.YtcncdepjbhnknaaGreatDoor
