/- The parts EPrices, EPricesW, EPricesX, RSlope. -/
import Derived.Test.YtmpaflidennnoaaGreatDoorK007
import Derived.Test.YtmpaflidennnoaaGreatDoorK006
set_option linter.unusedVariables false
set_option linter.unusedSimpArgs false
namespace Go.Proofs.YtmpaflidennnoaaGreatDoor
open Go.RowKit Go.Shelf
attribute [local go_sem ↓] Go.wp_at_zero Go.wp_at_succ
end Go.Proofs.YtmpaflidennnoaaGreatDoor
namespace Go.Proofs.YtmpaflidennnoaaGreatDoor
open Go.RowKit Go.Shelf
attribute [local go_sem ↓] Go.wp_at_zero Go.wp_at_succ
attribute [local go_sem] Oper.semAt_some
theorem ZgC:(Tryz.prog.info? 41).map (fun i=>(i.zero,i.size,i.bytes))=some (some (Zpb Zpa Zpa),2,32):=Zb
end Go.Proofs.YtmpaflidennnoaaGreatDoor
namespace Go.Proofs.YtmpaflidennnoaaGreatDoor
open Go.RowKit Go.Shelf
attribute [local go_sem ↓] Go.wp_at_zero Go.wp_at_succ
abbrev prO (v:Value):Obj:=.cells #[v] 37
end Go.Proofs.YtmpaflidennnoaaGreatDoor
