/- The parts RowShape of a proof, put together by program (merge.py). -/
import Derived.Test.YthbpadjhlkdpeaaGreatDoorG18
import Derived.Test.YthbpadjhlkdpeaaGreatDoorG37
import Derived.HandedShaped
import Derived.ChangeMaps5
import Derived.Shelf.Vars
/- The rows' wrap with the laid list and the world's shape; what the list says of the powers of ten. -/
namespace Go.Proofs.YthbpadjhlkdpeaaGreatDoor
open Go.ChangeShapes Go.WideShapes Go.ChangeAt Go.RowKit

theorem handed_and_shaped {H : Type} {enc : TypeId × Value → H} {a : Assume} {C : Checked} {os : Os} {f : FuncId} {fn : Func} {s : ChangeSpec} {conds : List PathCond} {apart fresh handsOn again : Bool} {X : World → Array Value → Prop}
    (hX : ∀ (w w' : World) (args : Array Value), w.heap = w'.heap → X w args → X w' args)
    (own : ownKnob C.prog.godebug = none) (started : os.Started) (noInit : C.prog.inits.idxOf? f = none) (hfn : C.prog.funcs[f]? = some fn)
    (witness : ∃ (w : World) (tape : Tape) (i : Input), w.os = os ∧ (w.forCall tape i).Shaped C.prog ∧ i.vars = [] ∧ Input.okWide C.prog (w.forCall tape i) .any w.heap.size f i ∧
      ((s.pre enc C.prog fn conds apart (w.forCall tape i).memory i.args ∧ X (w.forCall tape i).memory i.args) ∧ sizedMet enc C.prog fn (OpenSpec.ofChange s) apart (w.forCall tape i).memory i.args) ∧ a.holds C.prog (lone (Frame.enter C.prog f i.args .normal) [] (w.forCall tape i)))
    (contract : ∀ (W : World) (base : Nat) (args : Array Value) (ds gs : List (DataW H)) (before : List MemPlace),
      (∀ (j : Nat) t v, fn.params[j]? = some t → args[j]? = some v → Value.okWide C.prog W .any base t v) →
      DataW.Whole enc C.prog fn.params.toList s.vars apart W args.toList ds gs before →
      X W args → W.ShapedOpen C.prog →
      Calls C.prog f args W fun e W' => ∃ v, e = .returned v ∧ s.post enc C.prog fn apart fresh handsOn again W args v W') :
    ReturnsInHanded a C os f .any (fun w args => (s.pre enc C.prog fn conds apart w args ∧ X w args) ∧ sizedMet enc C.prog fn (OpenSpec.ofChange s) apart w args) (s.post enc C.prog fn apart fresh handsOn again) := by
  refine returnsInHanded_of_calls own started noInit witness ?_
  intro w tape i _ hsh _ hok hpre _
  obtain ⟨_, _, _, fn', hfn', _, _, _, _, hval⟩ := hok
  have e : fn' = fn := Option.some.inj (hfn'.symm.trans hfn)
  subst e
  obtain ⟨⟨⟨ds, gs, before, hw, _⟩, hx⟩, _⟩ := hpre
  have hw' := DataW.Whole.of_heap (w' := w.forCall tape i) (by rfl) hw
  refine (contract (w.forCall tape i) w.heap.size i.args ds gs before hval hw' (hX _ _ _ (by rfl) hx) hsh).mono fun e W' ⟨v, he, hp⟩ => ?_
  subst he
  exact ChangeSpec.post_blind hp

/-- What the rows list that reach the powers of ten. -/
def laid8 : List (String × DataW Unit) := Rows.weightTextsRow.laid
theorem plain8 : (laid8.all fun x => x.2.handleName?.isNone) = true := by kernel_rfl
theorem pow8 : (laid8.filter fun x => x.1 == "internal/strconv.uint64pow10") = [("internal/strconv.uint64pow10", Lib.tabData .u64 Lib.pow10Tab)] := by kernel_rfl
def tensTab : List Int := [1, 10, 100, 1000, 10000, 100000, 1000000, 10000000, 100000000, 1000000000]
theorem tens8 : (laid8.filter fun x => x.1 == "cresset/weight.tens") = [("cresset/weight.tens", Lib.tabData .u64 tensTab)] := by kernel_rfl
theorem tens_name : Tryz.prog.globalNamed "cresset/weight.tens" = some 0 := by kernel_rfl
theorem tabs_of_laid8 {W : World} (h : laidMetH Tryz.prog laid8 W) : Tabs W := by
  rw [MakeChecks.laidMetH_plain _ _ _ plain8] at h
  have h2 := laidMet.filter (fun x => x.1 == "internal/strconv.uint64pow10") h
  rw [pow8] at h2
  exact Lib.tabIs_of_head pow10_name (by kernel_rfl) Tryz.underlying226 Tryz.underlying113 (by kernel_rfl) (by kernel_rfl) h2
theorem tens_of_laid8 {W : World} (h : laidMetH Tryz.prog laid8 W) : TensV W := by
  rw [MakeChecks.laidMetH_plain _ _ _ plain8] at h
  have h2 := laidMet.filter (fun x => x.1 == "cresset/weight.tens") h
  rw [tens8] at h2
  have h3 : Lib.TabIs Tryz.prog W "cresset/weight.tens" .u64 tensTab := Lib.tabIs_of_head tens_name (by kernel_rfl) Tryz.underlying160 Tryz.underlying113 (by kernel_rfl) (by kernel_rfl) h2
  intro r hr
  have h4 := h3.cell tens_name r (by simpa [tensTab] using hr)
  rw [h4]
  have h5 : ∀ r, r < 10 → tensTab.getD r 0 = ((10 ^ r : Nat) : Int) := by decide +kernel
  rw [h5 r hr]
theorem maxV_of_shape {W : World} (h : W.ShapedOpen Tryz.prog) : MaxV W :=
  cell_of_shapedOpen_int (P := Tryz.prog) (g := 3) (t := 3) (zero := #[.int .i64 0]) h (of_decide_eq_true (by kernel_rfl)) (by kernel_rfl) rfl (by kernel_rfl) (by kernel_rfl) Tryz.underlying3
theorem fits8 (os : Os) : (World.holding Tryz.prog os ⟨#[], #[], []⟩).layFits Tryz.prog laid8 [] = true := by kernel_rfl
theorem ifaces8 (os : Os) : (World.holding Tryz.prog os ⟨#[], #[], []⟩).layIfaces Tryz.prog laid8 (World.laidAll Tryz.prog os laid8) = true := by kernel_rfl
theorem met8 (os : Os) (args : Array Value) : laidMetH Tryz.prog laid8 ((World.laidAll Tryz.prog os laid8).forCall (fun _ _ => 0) ⟨#[], args, []⟩).memory := by
  rw [MakeChecks.laidMetH_plain _ _ _ plain8]
  exact laidMet_laidAll _ (fits8 os) (ifaces8 os)
end Go.Proofs.YthbpadjhlkdpeaaGreatDoor
