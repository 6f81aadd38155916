/- The parts DRowBase of a proof, put together by program (merge6.py). -/
import Derived.Test.YtcncdepjbhnknaaGreatDoorRows
import Derived.Test.YtcncdepjbhnknaaGreatDoorH07
import Derived.Test.YtcncdepjbhnknaaGreatDoorH12
import Derived.Test.YtcncdepjbhnknaaGreatDoorH11
import Derived.ProofKit
import Derived.OpenShut
import Derived.LaidMore
import Derived.LaidSub
import Derived.Lay
import Derived.Lib.LaidTab
import Derived.Lib.SmallJoins
import Derived.SevenTiedAt
import Derived.Stop.Joined
import Derived.Deep.SlicePairs
set_option linter.unusedVariables false
set_option linter.unusedSimpArgs false
/- What the rows of this seat share: the laid variables, the witness, the arguments opened. -/
namespace Go.Proofs.YtcncdepjbhnknaaGreatDoor
open Go.ChangeShapes Go.WideShapes Go.ChangeAt Go.RowKit

theorem own_seat : ownKnob Tryz.prog.godebug = none := by kernel_rfl
theorem out_seat : laidOutB Tryz.prog = true := by kernel_rfl
/-- What the rows list. -/
def laid9 : List (String × DataW Unit) := Rows.detectWorseRow.laid
theorem plain9 : (laid9.all fun x => x.2.handleName?.isNone) = true := by kernel_rfl
theorem pow9 : (laid9.filter fun x => x.1 == "internal/strconv.uint64pow10") = [("internal/strconv.uint64pow10", Lib.tabData .u64 Lib.pow10Tab)] := by kernel_rfl
theorem zero9 : (laid9.filter fun x => x.1 == "cresset/detect.zero") = [("cresset/detect.zero", .agg [.lit (.string [48]), .lit (.string [49])])] := by kernel_rfl
theorem one9 : (laid9.filter fun x => x.1 == "cresset/detect.one") = [("cresset/detect.one", .agg [.lit (.string [49]), .lit (.string [49])])] := by kernel_rfl
theorem tabs_of_laid9 {W : World} (h : laidMetH Tryz.prog laid9 W) : Tabs W := by
  rw [MakeChecks.laidMetH_plain _ _ _ plain9] at h
  have h2 := laidMet.filter (fun x => x.1 == "internal/strconv.uint64pow10") h
  rw [pow9] at h2
  exact Lib.tabIs_of_head pow10_name (by kernel_rfl) Tryz.underlying206 Tryz.underlying98 (by kernel_rfl) (by kernel_rfl) h2
set_option maxRecDepth 100000 in
theorem part_of_head {name : String} {g : Nat} {a b : List UInt8} {W : World} (hg : Tryz.prog.globalNamed name = some g) (hty : (Tryz.prog.globals[g]?).map (·.type) = some 46)
    (h : laidMet Tryz.prog [(name, .agg [.lit (.string a), .lit (.string b)])] W) : W.cell? ⟨g, 0, none⟩ = some (.string ⟨a.toArray⟩) ∧ W.cell? ⟨g, 1, none⟩ = some (.string ⟨b.toArray⟩) := by
  obtain ⟨ps, ⟨g', t', cs, fuel, p, q, hg', ht', hvar, hd, _, _⟩, _⟩ := h
  obtain rfl := Option.some.inj (hg.symm.trans hg')
  obtain rfl := Option.some.inj (hty.symm.trans ht')
  obtain ⟨y0, y1, n, hx, hl, h0, h1⟩ := trod_struct2 Tryz.underlying46 hd
  obtain ⟨l, hl'⟩ : ∃ l, cs.toList = l := ⟨_, rfl⟩
  rw [hl'] at hl h0 h1
  have c2 : Tryz.prog.cellsOf 46 = 2 := by kernel_rfl
  have c1 : Tryz.prog.cellsOf 44 = 1 := by kernel_rfl
  rw [c2] at hl
  match l, hl with
  | [v0, v1], _ =>
    dsimp only at h0 h1
    rw [c1] at h0 h1
    obtain ⟨s, e0, e1, _⟩ := DataW.trod_string Tryz.underlying44 h0
    obtain ⟨t, f0, f1, _⟩ := DataW.trod_string Tryz.underlying44 h1
    simp at e0 f0
    subst e0 f0
    simp only [e1, f1, Prod.mk.injEq, DataW.agg.injEq, List.cons.injEq, DataW.lit.injEq, Lit.string.injEq, and_true] at hx
    obtain ⟨⟨rfl, rfl⟩, _⟩ := hx
    have k0 := World.var?_cell hg hvar 0
    have k1 := World.var?_cell hg hvar 1
    have z0 : cs[0]? = some (.string s) := by rw [← Array.getElem?_toList, hl']; rfl
    have z1 : cs[1]? = some (.string t) := by rw [← Array.getElem?_toList, hl']; rfl
    exact ⟨k0.trans z0, k1.trans z1⟩
theorem detV_of_laid9 {W : World} (h : laidMetH Tryz.prog laid9 W) : DetV W := by
  rw [MakeChecks.laidMetH_plain _ _ _ plain9] at h
  have h2 := laidMet.filter (fun x => x.1 == "cresset/detect.zero") h
  have h3 := laidMet.filter (fun x => x.1 == "cresset/detect.one") h
  rw [zero9] at h2
  rw [one9] at h3
  have k2 := part_of_head (g := 0) (by kernel_rfl) (by kernel_rfl) h2
  have k3 := part_of_head (g := 1) (by kernel_rfl) (by kernel_rfl) h3
  exact ⟨k2.1, k2.2, k3.1, k3.2⟩
theorem fits9 (os : Os) : (World.holding Tryz.prog os ⟨#[], #[], []⟩).layFits Tryz.prog laid9 [] = true := by kernel_rfl
theorem ifaces9 (os : Os) : (World.holding Tryz.prog os ⟨#[], #[], []⟩).layIfaces Tryz.prog laid9 (World.laidAll Tryz.prog os laid9) = true := by kernel_rfl
theorem met9 (os : Os) (args : Array Value) : laidMetH Tryz.prog laid9 ((World.laidAll Tryz.prog os laid9).forCall (fun _ _ => 0) ⟨#[], args, []⟩).memory := by
  rw [MakeChecks.laidMetH_plain _ _ _ plain9]
  exact laidMet_laidAll _ (fits9 os) (ifaces9 os)
set_option maxRecDepth 100000 in
/-- Two strings, read. -/
theorem open_part {H : Type} {enc : TypeId × Value → H} {W : World} {base b0 : Nat} {sp : Nat → Bool} {held : Bool} {v : Value} {d : DataW H} {p : List MemPlace} (hv : Value.okWide Tryz.prog W .any b0 46 v)
    (h : DataW.Trod enc Tryz.prog W base sp held 46 v d p) : ∃ s t : ByteArray, v = .agg #[.string s, .string t] ∧ p = [] := by
  obtain ⟨c0, c1, y0, y1, m, rfl, rfl, rfl, hy0, hy1⟩ := Joins.open_agg2 Tryz.underlying46 (by kernel_rfl) (by kernel_rfl) hv h
  obtain ⟨s, e0, rfl, _⟩ := DataW.trod_string Tryz.underlying44 hy0
  obtain ⟨t, e1, rfl, _⟩ := DataW.trod_string Tryz.underlying44 hy1
  simp at e0 e1
  subst e0 e1
  exact ⟨s, t, rfl, rfl⟩
set_option maxRecDepth 100000 in
/-- A list of sights as an argument. -/
theorem open_sights {H : Type} {enc : TypeId × Value → H} {W : World} {base b0 : Nat} {sp : Nat → Bool} {held : Bool} {v : Value} {d : DataW H} {p : List MemPlace} (hv : Value.okWide Tryz.prog W .any b0 22 v)
    (h : DataW.Trod enc Tryz.prog W base sp held 22 v d p) : ∃ l : List Sg, SL W v l := by
  obtain ⟨a0, len, cap, rfl⟩ := okWide_slice Tryz.underlying22 hv
  obtain ⟨fuel, hf⟩ := h
  have ce : Tryz.prog.cellsOf 30 = 5 := by kernel_rfl
  have ci : Tryz.prog.cellsOf 3 = 1 := by kernel_rfl
  rcases Deep.open_slice Tryz.underlying22 hf with ⟨hcs, _⟩ | ⟨a, len', cap', m, n, D, Pl, hcs, _, hl, hm, hmm, _, hx⟩
  · simp only [Value.cells, List.cons.injEq, Value.slice.injEq, and_true] at hcs
    obtain ⟨rfl, rfl, rfl⟩ := hcs
    exact ⟨[], SL.nil W⟩
  · simp only [Value.cells, List.cons.injEq, Value.slice.injEq, and_true] at hcs
    obtain ⟨rfl, rfl, rfl⟩ := hcs
    have hlm : len ≤ m := by rw [hmm]; split <;> omega
    have each : ∀ i, i < len → ∃ q : Sg, W.cell? (a.add (i * 5)) = some (.int .i64 q.sn) ∧ W.cell? (a.add (i * 5 + 1)) = some (.int .i64 q.ob) ∧ W.cell? (a.add (i * 5 + 2)) = some (.int .i64 q.li) ∧ W.cell? (a.add (i * 5 + 3)) = some (.int .i64 q.se) ∧ W.cell? (a.add (i * 5 + 4)) = some (.int .i64 q.wi) := by
      intro i hi
      obtain ⟨cs', h1, h2⟩ := hx i (by omega)
      rw [ce] at h1
      obtain ⟨_, hlen, hcell⟩ := World.cells?_some h1
      obtain ⟨xs, k, hk, hxy, _, hxl, hff⟩ := DataW.trod_struct Tryz.underlying30 h2
      match xs, hxl, cs', hlen with
      | [y0, y1, y2, y3, y4], _, [v0, v1, v2, v3, v4], _ =>
        have g0 := hff 0 _ rfl
        have g1 := hff 1 _ rfl
        have g2 := hff 2 _ rfl
        have g3 := hff 3 _ rfl
        have g4 := hff 4 _ rfl
        simp [ci] at g0 g1 g2 g3 g4
        have e0 := hcell 0 (by omega)
        have e1 := hcell 1 (by omega)
        have e2 := hcell 2 (by omega)
        have e3 := hcell 3 (by omega)
        have e4 := hcell 4 (by omega)
        rw [Deep.add_add] at e0 e1 e2 e3 e4
        obtain ⟨n0, z0, _, _⟩ := DataW.trod_int Tryz.underlying3 g0
        obtain ⟨n1, z1, _, _⟩ := DataW.trod_int Tryz.underlying3 g1
        obtain ⟨n2, z2, _, _⟩ := DataW.trod_int Tryz.underlying3 g2
        obtain ⟨n3, z3, _, _⟩ := DataW.trod_int Tryz.underlying3 g3
        obtain ⟨n4, z4, _, _⟩ := DataW.trod_int Tryz.underlying3 g4
        simp only [List.cons.injEq, and_true] at z0 z1 z2 z3 z4
        subst z0 z1 z2 z3 z4
        exact ⟨⟨n0, n1, n2, n3, n4⟩, by simpa using e0, by simpa using e1, by simpa using e2, by simpa using e3, by simpa using e4⟩
    haveI : Inhabited Sg := ⟨noSg⟩
    obtain ⟨q, hq⟩ := Deep.choose_lt each
    obtain ⟨b, off, spot⟩ := a
    refine ⟨(List.range len).map q, some ⟨b, off, spot⟩, cap, by simp, by simpa using hl, hm, fun hne => ?_⟩
    have h0 : 0 < len := by
      rcases Nat.eq_zero_or_pos len with h | h
      · subst h; exact absurd rfl hne
      · exact h
    have hspot : spot = none := by simpa [Addr.add] using World.cell?_spot (hq 0 h0).1
    subst hspot
    refine ⟨b, off, rfl, World.block_lt_of_cell? _ _ (hq 0 h0).1, fun j hj => ?_⟩
    have hj' : j < len := by simpa using hj
    have e : ((List.range len).map q)[j] = q j := by simp
    rw [e]
    have h9 := hq j hj'
    simp only [add_plain] at h9
    exact h9
set_option maxRecDepth 100000 in
/-- A list of bends as an argument. -/
theorem open_bends {H : Type} {enc : TypeId × Value → H} {W : World} {base b0 : Nat} {sp : Nat → Bool} {held : Bool} {v : Value} {d : DataW H} {p : List MemPlace} (hv : Value.okWide Tryz.prog W .any b0 34 v)
    (h : DataW.Trod enc Tryz.prog W base sp held 34 v d p) : ∃ l : List BB, BL W v l := by
  obtain ⟨a0, len, cap, rfl⟩ := okWide_slice Tryz.underlying34 hv
  obtain ⟨fuel, hf⟩ := h
  have ce : Tryz.prog.cellsOf 56 = 4 := by kernel_rfl
  have cp : Tryz.prog.cellsOf 46 = 2 := by kernel_rfl
  have ci : Tryz.prog.cellsOf 44 = 1 := by kernel_rfl
  rcases Deep.open_slice Tryz.underlying34 hf with ⟨hcs, _⟩ | ⟨a, len', cap', m, n, D, Pl, hcs, _, hl, hm, hmm, _, hx⟩
  · simp only [Value.cells, List.cons.injEq, Value.slice.injEq, and_true] at hcs
    obtain ⟨rfl, rfl, rfl⟩ := hcs
    exact ⟨[], BL.nil W⟩
  · simp only [Value.cells, List.cons.injEq, Value.slice.injEq, and_true] at hcs
    obtain ⟨rfl, rfl, rfl⟩ := hcs
    have hlm : len ≤ m := by rw [hmm]; split <;> omega
    have each : ∀ i, i < len → ∃ q : BB, W.cell? (a.add (i * 4)) = some (.string q.1.1) ∧ W.cell? (a.add (i * 4 + 1)) = some (.string q.1.2) ∧ W.cell? (a.add (i * 4 + 2)) = some (.string q.2.1) ∧ W.cell? (a.add (i * 4 + 3)) = some (.string q.2.2) := by
      intro i hi
      obtain ⟨cs', h1, h2⟩ := hx i (by omega)
      rw [ce] at h1
      obtain ⟨_, hlen, hcell⟩ := World.cells?_some h1
      obtain ⟨xs, k, hk, hxy, _, hxl, hff⟩ := DataW.trod_struct Tryz.underlying56 h2
      match xs, hxl, cs', hlen with
      | [y0, y1], _, [v0, v1, v2, v3], _ =>
        have g0 := hff 0 _ rfl
        have g1 := hff 1 _ rfl
        simp [cp] at g0 g1
        obtain ⟨z0, z1, k0, _, _, g00, g01⟩ := trod_struct2 Tryz.underlying46 g0
        obtain ⟨z2, z3, k1, _, _, g10, g11⟩ := trod_struct2 Tryz.underlying46 g1
        simp [ci] at g00 g01 g10 g11
        have e0 := hcell 0 (by omega)
        have e1 := hcell 1 (by omega)
        have e2 := hcell 2 (by omega)
        have e3 := hcell 3 (by omega)
        rw [Deep.add_add] at e0 e1 e2 e3
        obtain ⟨n0, z0, _, _⟩ := DataW.trod_string Tryz.underlying44 g00
        obtain ⟨n1, z1, _, _⟩ := DataW.trod_string Tryz.underlying44 g01
        obtain ⟨n2, z2, _, _⟩ := DataW.trod_string Tryz.underlying44 g10
        obtain ⟨n3, z3, _, _⟩ := DataW.trod_string Tryz.underlying44 g11
        simp only [List.cons.injEq, and_true] at z0 z1 z2 z3
        subst z0 z1 z2 z3
        exact ⟨((n0, n1), (n2, n3)), by simpa using e0, by simpa using e1, by simpa using e2, by simpa using e3⟩
    obtain ⟨q, hq⟩ := Deep.choose_lt each
    obtain ⟨b, off, spot⟩ := a
    refine ⟨(List.range len).map q, some ⟨b, off, spot⟩, cap, by simp, by simpa using hl, hm, fun hne => ?_⟩
    have h0 : 0 < len := by
      rcases Nat.eq_zero_or_pos len with h | h
      · subst h; exact absurd rfl hne
      · exact h
    have hspot : spot = none := by simpa [Addr.add] using World.cell?_spot (hq 0 h0).1
    subst hspot
    refine ⟨b, off, rfl, World.block_lt_of_cell? _ _ (hq 0 h0).1, fun j hj => ?_⟩
    have hj' : j < len := by simpa using hj
    have e : ((List.range len).map q)[j] = q j := by simp
    rw [e]
    have h9 := hq j hj'
    simp only [add_plain] at h9
    exact h9
theorem trodAll_five {H : Type} {enc : TypeId × Value → H} {P : Program} {w : World} {base : Nat} {spare : Nat → Bool} {held : Bool} {t0 t1 t2 t3 t4 : TypeId} {args : Array Value} {ds : List (DataW H)} {ps : List MemPlace}
    (h : DataW.TrodAll enc P w base spare held [t0, t1, t2, t3, t4] args.toList ds ps) :
    ∃ v0 v1 v2 v3 v4 d0 d1 d2 d3 d4 p0 p1 p2 p3 p4, args = #[v0, v1, v2, v3, v4] ∧ ds = [d0, d1, d2, d3, d4] ∧ ps = p0 ++ p1 ++ p2 ++ p3 ++ p4 ∧ DataW.Trod enc P w base spare held t0 v0 d0 p0 ∧ DataW.Trod enc P w base spare held t1 v1 d1 p1 ∧
      DataW.Trod enc P w base spare held t2 v2 d2 p2 ∧ DataW.Trod enc P w base spare held t3 v3 d3 p3 ∧ DataW.Trod enc P w base spare held t4 v4 d4 p4 := by
  obtain ⟨v0, x0, d0, y0, p0, q0, hargs, rfl, rfl, h0, r0⟩ := trodAll_cons h
  obtain ⟨v1, x1, d1, y1, p1, q1, rfl, rfl, rfl, h1, r1⟩ := trodAll_cons r0
  obtain ⟨v2, x2, d2, y2, p2, q2, rfl, rfl, rfl, h2, r2⟩ := trodAll_cons r1
  obtain ⟨v3, x3, d3, y3, p3, q3, rfl, rfl, rfl, h3, r3⟩ := trodAll_cons r2
  obtain ⟨v4, x4, d4, y4, p4, q4, rfl, rfl, rfl, h4, r4⟩ := trodAll_cons r3
  obtain ⟨rfl, rfl, rfl⟩ := trodAll_nil r4
  exact ⟨v0, v1, v2, v3, v4, d0, d1, d2, d3, d4, p0, p1, p2, p3, p4, by cases args; simp_all, rfl, by simp, h0, h1, h2, h3, h4⟩
theorem trodAll_mk5 {H : Type} {enc : TypeId × Value → H} {P : Program} {w : World} {base : Nat} {spare : Nat → Bool} {held : Bool} {t0 t1 t2 t3 t4 : TypeId} {v0 v1 v2 v3 v4 : Value} {d0 d1 d2 d3 d4 : DataW H} {p0 p1 p2 p3 p4 : List MemPlace}
    (h0 : DataW.Trod enc P w base spare held t0 v0 d0 p0) (h1 : DataW.Trod enc P w base spare held t1 v1 d1 p1) (h2 : DataW.Trod enc P w base spare held t2 v2 d2 p2) (h3 : DataW.Trod enc P w base spare held t3 v3 d3 p3) (h4 : DataW.Trod enc P w base spare held t4 v4 d4 p4) :
    DataW.TrodAll enc P w base spare held [t0, t1, t2, t3, t4] [v0, v1, v2, v3, v4] [d0, d1, d2, d3, d4] (p0 ++ (p1 ++ (p2 ++ (p3 ++ p4)))) := ⟨p0, _, h0, trodAll_mk4 h1 h2 h3 h4, rfl⟩
theorem array_two (T : Array Value) (h : T.size = 2) : ∃ v0 v1 : Value, T = #[v0, v1] := by
  obtain ⟨l⟩ := T
  match l, h with
  | [a, b], _ => exact ⟨a, b, rfl⟩
set_option maxRecDepth 100000 in
/-- Two bytes as an argument. -/
theorem open_seas {H : Type} {enc : TypeId × Value → H} {W : World} {base b0 : Nat} {sp : Nat → Bool} {held : Bool} {v : Value} {d : DataW H} {p : List MemPlace} (hv : Value.okWide Tryz.prog W .any b0 58 v)
    (h : DataW.Trod enc Tryz.prog W base sp held 58 v d p) : ∃ a b : Nat, a ≤ 255 ∧ b ≤ 255 ∧ v = .agg #[.int .u8 a, .int .u8 b] ∧ p = [] := by
  have hv2 := hv
  simp only [Value.okWide, Tryz.underlying58] at hv2
  obtain ⟨cs, rfl, hsz, _⟩ := hv2
  have ca : Tryz.prog.cellsOf 58 = 2 := by kernel_rfl
  have ci : Tryz.prog.cellsOf 5 = 1 := by kernel_rfl
  rw [ca] at hsz
  obtain ⟨c0, c1, rfl⟩ := array_two _ hsz
  obtain ⟨fuel, hf⟩ := h
  obtain ⟨xs, m, _, hx, _, hxl, hff⟩ := DataW.trod_array Tryz.underlying58 hf
  match xs, hxl with
  | [y0, y1], _ =>
    have g0 := hff 0 (by omega)
    have g1 := hff 1 (by omega)
    simp [ci, Value.cells] at g0 g1
    obtain ⟨n0, z0, w0, k0⟩ := DataW.trod_int Tryz.underlying5 g0
    obtain ⟨n1, z1, w1, k1⟩ := DataW.trod_int Tryz.underlying5 g1
    simp only [List.cons.injEq, and_true] at z0 z1
    subst z0 z1
    have b0 : 0 ≤ n0 ∧ n0 ≤ 255 := by simpa [Lit.wf, IntKind.min, IntKind.max, IntKind.signed, IntKind.bits] using k0
    have b1 : 0 ≤ n1 ∧ n1 ≤ 255 := by simpa [Lit.wf, IntKind.min, IntKind.max, IntKind.signed, IntKind.bits] using k1
    refine ⟨n0.toNat, n1.toNat, by omega, by omega, ?_, ?_⟩
    · rw [Int.toNat_of_nonneg b0.1, Int.toNat_of_nonneg b1.1]
    · injection hx with _ hp
      rw [hp, w0, w1]
      rfl
end Go.Proofs.YtcncdepjbhnknaaGreatDoor
