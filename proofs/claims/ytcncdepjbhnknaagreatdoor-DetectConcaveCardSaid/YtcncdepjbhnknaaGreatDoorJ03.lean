/- The parts RMade, RCheck, RPlus of a proof, put together by program (merge6.py). -/
import Derived.Test.YtcncdepjbhnknaaGreatDoorJ01
import Derived.Test.YtcncdepjbhnknaaGreatDoorJ02
import Derived.Test.YtcncdepjbhnknaaGreatDoorH12
import Derived.Deep.RegionHeld3
import Derived.Deep.DrawnRows
set_option linter.unusedVariables false
set_option linter.unusedSimpArgs false
namespace Go.Proofs.YtcncdepjbhnknaaGreatDoor
open Go.RowKit Go.Shelf
attribute [local go_sem ↓] Go.wp_at_zero Go.wp_at_succ



end Go.Proofs.YtcncdepjbhnknaaGreatDoor
namespace Go.Proofs.YtcncdepjbhnknaaGreatDoor
open Go.RowKit Go.Shelf
attribute [local go_sem ↓] Go.wp_at_zero Go.wp_at_succ



structure ROk (s t : ByteArray) (n d : Nat) : Prop where
  ds : ∀ c ∈ s.data.toList, isDig c = true
  dt : ∀ c ∈ t.data.toList, isDig c = true
  ls : (limbs 10000 n).length ≤ 150
  lt : (limbs 10000 d).length ≤ 150
  pos : 0 < d
end Go.Proofs.YtcncdepjbhnknaaGreatDoor
namespace Go.Proofs.YtcncdepjbhnknaaGreatDoor
open Go.RowKit
end Go.Proofs.YtcncdepjbhnknaaGreatDoor
