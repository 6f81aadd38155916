/- The parts RowBase of a proof, put together by program (merge.py). -/
import Derived.Test.YthbpadjhlkdpeaaGreatDoorRows
import Derived.Test.YthbpadjhlkdpeaaGreatDoorG07
import Derived.ProofKit
import Derived.OpenShut
import Derived.LaidMore
import Derived.LaidSub
import Derived.Lay
import Derived.Lib.LaidTab
import Derived.Lib.SmallJoins
import Derived.SevenTiedAt
import Derived.Stop.Joined
/- What the rows of the seat share: the laid variables, the witness. -/
namespace Go.Proofs.YthbpadjhlkdpeaaGreatDoor
open Go.ChangeShapes Go.WideShapes Go.ChangeAt Go.RowKit

theorem own_seat : ownKnob Tryz.prog.godebug = none := by kernel_rfl
theorem out_seat : laidOutB Tryz.prog = true := by kernel_rfl
/-- What most of the rows list. -/
def laid7 : List (String × DataW Unit) := Rows.weightFieldRow.laid
theorem plain7 : (laid7.all fun x => x.2.handleName?.isNone) = true := by kernel_rfl
theorem pow7 : (laid7.filter fun x => x.1 == "internal/strconv.uint64pow10") = [("internal/strconv.uint64pow10", Lib.tabData .u64 Lib.pow10Tab)] := by kernel_rfl
theorem tabs_of_laid {W : World} (h : laidMetH Tryz.prog laid7 W) : Tabs W := by
  rw [MakeChecks.laidMetH_plain _ _ _ plain7] at h
  have h2 := laidMet.filter (fun x => x.1 == "internal/strconv.uint64pow10") h
  rw [pow7] at h2
  exact Lib.tabIs_of_head pow10_name (by kernel_rfl) Tryz.underlying226 Tryz.underlying113 (by kernel_rfl) (by kernel_rfl) h2
theorem fits7 (os : Os) : (World.holding Tryz.prog os ⟨#[], #[], []⟩).layFits Tryz.prog laid7 [] = true := by kernel_rfl
theorem ifaces7 (os : Os) : (World.holding Tryz.prog os ⟨#[], #[], []⟩).layIfaces Tryz.prog laid7 (World.laidAll Tryz.prog os laid7) = true := by kernel_rfl
theorem met7 (os : Os) (args : Array Value) : laidMetH Tryz.prog laid7 ((World.laidAll Tryz.prog os laid7).forCall (fun _ _ => 0) ⟨#[], args, []⟩).memory := by
  rw [MakeChecks.laidMetH_plain _ _ _ plain7]
  exact laidMet_laidAll _ (fits7 os) (ifaces7 os)
set_option maxRecDepth 100000 in
/-- Two strings, read. -/
theorem open_part {H : Type} {enc : TypeId × Value → H} {W : World} {base b0 : Nat} {sp : Nat → Bool} {held : Bool} {v : Value} {d : DataW H} {p : List MemPlace} (hv : Value.okWide Tryz.prog W .any b0 24 v)
    (h : DataW.Trod enc Tryz.prog W base sp held 24 v d p) : ∃ s t : ByteArray, v = .agg #[.string s, .string t] ∧ p = [] := by
  obtain ⟨c0, c1, y0, y1, m, rfl, rfl, rfl, hy0, hy1⟩ := Joins.open_agg2 Tryz.underlying24 (by kernel_rfl) (by kernel_rfl) hv h
  obtain ⟨s, e0, rfl, _⟩ := DataW.trod_string Tryz.underlying22 hy0
  obtain ⟨t, e1, rfl, _⟩ := DataW.trod_string Tryz.underlying22 hy1
  simp at e0 e1
  subst e0 e1
  exact ⟨s, t, rfl, rfl⟩
end Go.Proofs.YthbpadjhlkdpeaaGreatDoor
