/- The parts Table, Missed, Upto, Made, Ratio, Vals, LawOps, DetVals, DOf, Steps of a proof, put together by program (merge6.py). -/
import Derived.Test.YtcncdepjbhnknaaGreatDoorH11
import Derived.DeepKeys4
import Derived.Test.YtcncdepjbhnknaaGreatDoorH08
import Derived.Test.YtcncdepjbhnknaaGreatDoorH02
import Derived.Test.YtcncdepjbhnknaaGreatDoorH03
set_option linter.unusedVariables false
set_option linter.unusedSimpArgs false
/- What the map of CheckTable holds, in plain words: the sights of each sort, in their order. -/
namespace Go.Proofs.YtcncdepjbhnknaaGreatDoor
open Go.RowKit Go.Shelf Go.ChangeShapes Go.WideShapes Go.WideMaps

/-- The key of a sight. -/
abbrev kV (x y z : Int) : Value := .agg #[.int .i64 x, .int .i64 y, .int .i64 z]
abbrev keyV (a : Sg) : Value := kV a.sn a.ob a.li
set_option maxRecDepth 100000 in
theorem sort_laid : laidOutB Tryz.prog = true := by kernel_rfl
set_option maxRecDepth 100000 in
theorem sort_row : (73 : TypeId) < Tryz.prog.types.size := of_decide_eq_true (by kernel_rfl)
set_option maxRecDepth 100000 in
theorem sort_wide : (match Tryz.prog.underlying 73 with | some (.array _ _) | some (.struct _) => true | _ => false) = true := by rw [Tryz.underlying73]
set_option maxRecDepth 100000 in
theorem sort_deep : Tryz.prog.keyTypeAt 2 73 = true := by kernel_rfl
set_option maxRecDepth 100000 in
theorem sort_keyed : Maps.Keyed Tryz.prog 73 := Maps.Keyed.of_law (deep_law_laid sort_laid (m := 2) (by omega) sort_row sort_deep sort_wide)
set_option maxRecDepth 100000 in
theorem sort_keyType : Tryz.prog.keyType 73 = true := by kernel_rfl
set_option maxRecDepth 100000 in
theorem sort_cells : Tryz.prog.cellsOf 73 = 3 := by kernel_rfl
theorem int_cells : Tryz.prog.cellsOf 3 = 1 := by kernel_rfl
set_option maxRecDepth 100000 in
theorem key_some {x y z : Int} (hx : 0 ≤ x ∧ x ≤ 63) (hy : 0 ≤ y ∧ y ≤ 63) (hz : 0 ≤ z ∧ z ≤ 63) : ∃ kl, keyOf Tryz.prog 73 (kV x y z) = some kl := by
  have w : ∀ {n : Int}, (0 ≤ n ∧ n ≤ 63) → (Lit.int .i64 n).wf = true := fun {n} h => by
    have e1 : IntKind.i64.min = -9223372036854775808 := by decide
    have e2 : IntKind.i64.max = 9223372036854775807 := by decide
    simp only [Lit.wf, e1, e2, Bool.and_eq_true, decide_eq_true_eq]
    omega
  obtain ⟨m, hm⟩ : ∃ m, Tryz.prog.types.size = m + 1 := ⟨Tryz.prog.types.size - 1, (Nat.succ_pred_eq_of_pos (Nat.lt_of_le_of_lt (Nat.zero_le _) sort_row)).symm⟩
  have hf : (kV x y z).formed Tryz.prog 73 = true := by simp [Value.formed, Tryz.underlying73, sort_cells]
  unfold keyOf
  rw [Tryz.underlying73]
  simp only [sort_keyType, hf, Bool.and_self, if_true, hm, Value.cells]
  simp [Program.keyLits, Tryz.underlying73, Tryz.underlying3, sort_cells, int_cells, List.range, List.range.loop, w hx, w hy, w hz]
noncomputable def keyL (a : Sg) : Lit := (keyOf Tryz.prog 73 (keyV a)).getD .nil
set_option maxRecDepth 100000 in
theorem keyL_of {a : Sg} (h : inSg a) : keyOf Tryz.prog 73 (keyV a) = some (keyL a) := by
  obtain ⟨kl, hk⟩ := key_some h.1 h.2.1 h.2.2.1
  unfold keyL
  rw [show keyOf Tryz.prog 73 (keyV a) = some kl from hk]
  rfl
set_option maxRecDepth 100000 in
theorem keyL_inj {a b : Sg} (ha : inSg a) (hb : inSg b) (h : keyL a = keyL b) : sameS a b := by
  have e1 := keyL_of ha
  have e2 := keyL_of hb
  rw [h] at e1
  have := sort_keyed.inj e1 e2
  simpa [keyV, kV, sameS] using this
theorem keyL_same {a b : Sg} (h : sameS a b) : keyL a = keyL b := by
  obtain ⟨h1, h2, h3⟩ := h
  unfold keyL keyV
  rw [h1, h2, h3]

def sameB (a b : Sg) : Bool := decide (a.sn = b.sn) && decide (a.ob = b.ob) && decide (a.li = b.li)
theorem sameB_iff {a b : Sg} : sameB a b = true ↔ sameS a b := by simp [sameB, sameS, and_assoc]
/-- The sights of a's sort. -/
def group (l : List Sg) (a : Sg) : List Sg := l.filter fun b => sameB b a
/-- What the map holds behind the sights l. -/
structure Holds (D : DataW Unit) (l : List Sg) : Prop where
  map : Maps.IsMap D
  at' : ∀ a, inSg a → D.atKey (keyL a) .nil = tabD (group l a)
theorem Holds.nil : Holds (.map []) [] := ⟨⟨_, rfl⟩, fun _ _ => rfl⟩
set_option maxRecDepth 100000 in
theorem Holds.snoc {D : DataW Unit} {l : List Sg} {a : Sg} (h : Holds D l) (ha : inSg a) (hm : Maps.IsMap (D.put (keyL a) (tabD (group l a ++ [a])))) : Holds (D.put (keyL a) (tabD (group l a ++ [a]))) (l ++ [a]) := by
  refine ⟨hm, fun b hb => ?_⟩
  unfold group
  rw [List.filter_append]
  by_cases hs : sameS a b
  · have e : sameB a b = true := sameB_iff.2 hs
    rw [← keyL_same hs, Maps.atKey_put_same h.map (sort_keyed.key (keyL_of ha))]
    simp only [List.filter_cons, List.filter_nil, e, if_true]
    congr 2
    exact List.filter_congr fun c _ => by
      obtain ⟨h1, h2, h3⟩ := hs
      simp [sameB, h1, h2, h3]
  · have e : sameB a b = false := by rw [← Bool.not_eq_true, sameB_iff]; exact hs
    rw [Maps.atKey_put_other (fun hk => hs (keyL_inj ha hb hk.symm)), h.at' b hb]
    simp only [List.filter_cons, List.filter_nil, e]
    simp [group]
theorem group_len (l : List Sg) (a : Sg) : (group l a).length ≤ l.length := List.length_filter_le _ _

/-- The first k sights make a valid table. -/
def Upto2 (l : List Sg) (k : Nat) : Prop := ∀ i, i < k → inSg (sAt l i) ∧ ∀ j, j < i → ¬ clash (sAt l j) (sAt l i)
theorem Upto2.zero (l : List Sg) : Upto2 l 0 := fun i h => by omega
theorem Upto2.succ {l : List Sg} {k : Nat} (h : Upto2 l k) (h1 : inSg (sAt l k)) (h2 : ∀ j, j < k → ¬ clash (sAt l j) (sAt l k)) : Upto2 l (k + 1) := fun i hi => by
  rcases Nat.lt_or_ge i k with h3 | h3
  · exact h i h3
  · obtain rfl : i = k := by omega
    exact ⟨h1, h2⟩
theorem Upto2.table {l : List Sg} (h : Upto2 l l.length) (hl : l.length ≤ 256) : TableP l := ⟨hl, h⟩
theorem no_table {l : List Sg} {k : Nat} (hk : k < l.length) (h : ¬ inSg (sAt l k)) : ¬ TableP l := fun ht => h (ht.2 k hk).1
theorem no_clash {l : List Sg} {k j : Nat} (hk : k < l.length) (hj : j < k) (h : clash (sAt l j) (sAt l k)) : ¬ TableP l := fun ht => (ht.2 k hk).2 j hj h
theorem take_snoc {l : List Sg} {k : Nat} (hk : k < l.length) : l.take (k + 1) = l.take k ++ [sAt l k] := by
  rw [List.take_add_one, List.getElem?_eq_getElem hk, sAt_get hk]
  rfl
theorem take_mem {l : List Sg} {k : Nat} {o : Sg} (h : o ∈ l.take k) : ∃ j, j < k ∧ j < l.length ∧ sAt l j = o := by
  obtain ⟨j, hj, rfl⟩ := List.getElem_of_mem h
  rw [List.length_take] at hj
  refine ⟨j, by omega, by omega, ?_⟩
  rw [sAt_get (by omega)]
  simp
/-- The condition of the inner loop. -/
theorem clash_iff {o s : Sg} (hs : sameS s o) : clash o s ↔ (0 < (s.se - o.se) * (s.wi - o.wi) ∨ s.se = o.se) := by
  unfold clash
  constructor
  · rintro ⟨_, h | h | h⟩
    · exact .inr h
    · exact .inl (Int.mul_pos (by omega) (by omega))
    · refine .inl ?_
      have := Int.mul_pos (a := o.se - s.se) (b := o.wi - s.wi) (by omega) (by omega)
      have e : (s.se - o.se) * (s.wi - o.wi) = (o.se - s.se) * (o.wi - s.wi) := by grind
      rw [e]; exact this
  · rintro (h | h)
    · refine ⟨hs, ?_⟩
      by_cases h1 : s.se = o.se
      · exact .inl h1
      · rcases Int.lt_or_gt_of_ne h1 with h2 | h2
        · refine .inr (.inr ⟨h2, ?_⟩)
          rcases Int.lt_or_le s.wi o.wi with h3 | h3
          · exact h3
          · exfalso
            have := Int.mul_nonneg (a := o.se - s.se) (b := s.wi - o.wi) (by omega) (by omega)
            have e : (s.se - o.se) * (s.wi - o.wi) = -((o.se - s.se) * (s.wi - o.wi)) := by grind
            omega
        · refine .inr (.inl ⟨h2, ?_⟩)
          rcases Int.lt_or_le o.wi s.wi with h3 | h3
          · exact h3
          · exfalso
            have := Int.mul_nonneg (a := s.se - o.se) (b := o.wi - s.wi) (by omega) (by omega)
            have e : (s.se - o.se) * (s.wi - o.wi) = -((s.se - o.se) * (o.wi - s.wi)) := by grind
            omega
    · exact ⟨hs, .inl h⟩
/-- Each sight of the group was looked at: none clashes. -/
theorem none_clash {l : List Sg} {k : Nat} (h : ∀ o ∈ group (l.take k) (sAt l k), ¬ (0 < ((sAt l k).se - o.se) * ((sAt l k).wi - o.wi) ∨ (sAt l k).se = o.se)) : ∀ j, j < k → j < l.length → ¬ clash (sAt l j) (sAt l k) := fun j hj hl hc => by
  have hs := hc.1
  have hm : sAt l j ∈ group (l.take k) (sAt l k) := by
    refine List.mem_filter.2 ⟨?_, sameB_iff.2 ⟨hs.1.symm, hs.2.1.symm, hs.2.2.symm⟩⟩
    rw [sAt_get hl]
    exact List.mem_iff_getElem.2 ⟨j, by rw [List.length_take]; omega, by simp⟩
  exact h _ hm ((clash_iff hs).1 hc)
theorem group_clash {l : List Sg} {k : Nat} {o : Sg} (hk : k < l.length) (ho : o ∈ group (l.take k) (sAt l k)) (h : 0 < ((sAt l k).se - o.se) * ((sAt l k).wi - o.wi) ∨ (sAt l k).se = o.se) : ¬ TableP l := by
  obtain ⟨hm, hs⟩ := List.mem_filter.1 ho
  obtain ⟨j, hj, hl, rfl⟩ := take_mem hm
  have hs := sameB_iff.1 hs
  exact no_clash hk hj ((clash_iff ⟨hs.1.symm, hs.2.1.symm, hs.2.2.symm⟩).2 h)
end Go.Proofs.YtcncdepjbhnknaaGreatDoor
/- Chances that all searches miss. No program is in sight. -/
namespace Go.Proofs.YtcncdepjbhnknaaGreatDoor

/-- What is left behind searches, as long as it fits. -/
def missA : Rat → List Rat → Option Rat
  | a, [] => some a
  | a, c :: cs => if Fits (a * (1 - c)) then missA (a * (1 - c)) cs else none
def prodM : List Rat → Rat
  | [] => 1
  | c :: cs => (1 - c) * prodM cs
theorem missA_prod : ∀ (cs : List Rat) {a r : Rat}, missA a cs = some r → r = a * prodM cs
  | [], a, r, h => by
    have : a = r := Option.some.inj h
    unfold prodM
    grind
  | c :: cs, a, r, h => by
    unfold missA at h
    split at h
    · have := missA_prod cs h
      unfold prodM
      grind
    · cases h
theorem prodM_append (a b : List Rat) : prodM (a ++ b) = prodM a * prodM b := by
  induction a with
  | nil => simp only [List.nil_append]; show _ = 1 * _; grind
  | cons c a ih => simp only [List.cons_append, prodM, ih]; grind
theorem prodM_reverse (a : List Rat) : prodM a.reverse = prodM a := by
  induction a with
  | nil => rfl
  | cons c a ih =>
    rw [List.reverse_cons, prodM_append, ih]
    simp only [prodM]
    grind
theorem prodM_range {cs : List Rat} (h : ∀ c ∈ cs, 0 ≤ c ∧ c ≤ 1) : 0 ≤ prodM cs := by
  induction cs with
  | nil => show (0 : Rat) ≤ 1; decide
  | cons c cs ih =>
    have h1 := h c (by simp)
    exact Rat.mul_nonneg (by grind) (ih fun x hx => h x (List.mem_cons_of_mem _ hx))
theorem prodM_more {a b : List Rat} {c : Rat} (h : ∀ x ∈ a ++ b, 0 ≤ x ∧ x ≤ 1) (hc : 0 ≤ c ∧ c ≤ 1) : prodM (a ++ c :: b) ≤ prodM (a ++ b) := by
  have h0 := prodM_range h
  have e : prodM (a ++ c :: b) = (1 - c) * prodM (a ++ b) := by
    rw [prodM_append, prodM_append]
    simp only [prodM]
    grind
  rw [e]
  have := Rat.mul_nonneg hc.1 h0
  grind

/-- Sizes of what a chance is reckoned of. -/
theorem slp_size {n : Nat} {C H : Nat → Rat} (h : Conc n C H) (hc : ∀ i, i < n → Sz 18 (C i)) (hh : ∀ i, i < n → Sz 18 (H i)) {i : Nat} (hi : i + 1 < n) :
    Sz 36 (H (i + 1) - H i) ∧ Sz 36 (C (i + 1) - C i) ∧ 0 < C (i + 1) - C i ∧ 0 ≤ H (i + 1) - H i ∧ 0 ≤ slp C H i ∧ Sz 72 (slp C H i) := by
  obtain ⟨u1, u2⟩ := h.up i hi
  have a := Sz.sub (h.h_nn (i := i + 1) hi) (h.h_nn (i := i) (by omega)) u2 (hh _ hi) (hh i (by omega))
  have b := Sz.sub (h.c_nn (i := i + 1) hi) (h.c_nn (i := i) (by omega)) (Rat.le_of_lt u1) (hc _ hi) (hc i (by omega))
  have c : 0 < C (i + 1) - C i := by grind
  have d : 0 ≤ H (i + 1) - H i := by grind
  exact ⟨a, b, c, d, slp_nn u1 u2, Sz.div d c a b⟩
theorem lin_size {n k : Nat} {C H : Nat → Rat} {q : Rat} (h : Conc n C H) (hc : ∀ i, i < n → Sz 18 (C i)) (hh : ∀ i, i < n → Sz 18 (H i)) (hq : 0 ≤ q) (hz : Sz k q) {i : Nat} (hi : i + 1 < n) (hp : Piece n C q i) :
    0 ≤ q - C i ∧ Sz (k + 18) (q - C i) ∧ 0 ≤ slp C H i * (q - C i) ∧ Sz (72 + (k + 18)) (slp C H i * (q - C i)) ∧ lin n C H i q = H i + slp C H i * (q - C i) ∧ Sz (18 + (72 + (k + 18)) + 1) (lin n C H i q) := by
  have h1 := hp.low h hq
  obtain ⟨_, _, _, _, s0, sz⟩ := slp_size h hc hh hi
  have a := Sz.sub hq (h.c_nn (i := i) (by omega)) h1 hz (hc i (by omega))
  have b : 0 ≤ q - C i := by grind
  have c := Rat.mul_nonneg s0 b
  have d := Sz.mul s0 b sz a
  have e : lin n C H i q = H i + slp C H i * (q - C i) := by
    unfold lin slo
    rw [if_pos hi]
  refine ⟨b, a, c, d, e, ?_⟩
  rw [e]
  exact Sz.add (h.h_nn (i := i) (by omega)) c (hh i (by omega)) d
end Go.Proofs.YtcncdepjbhnknaaGreatDoor
/- A curve that is checked bend by bend (plain). -/
namespace Go.Proofs.YtcncdepjbhnknaaGreatDoor
open Go.RowKit Go.Shelf

/-- The first k bends are right (the document's order). -/
structure Upto (bs : List BB) (k : Nat) : Prop where
  small : ∀ i, i < k → smallP 18 (bAt bs i).1 = true ∧ smallP 18 (bAt bs i).2 = true
  top : ∀ i, i < k → hR bs i ≤ 1
  up : ∀ i, i + 1 < k → cR bs i < cR bs (i + 1) ∧ hR bs i ≤ hR bs (i + 1)
  conc : ∀ i, i + 2 < k → slp (cR bs) (hR bs) (i + 1) ≤ slp (cR bs) (hR bs) i
theorem Upto.zero (bs : List BB) : Upto bs 0 := ⟨fun i h => by omega, fun i h => by omega, fun i h => by omega, fun i h => by omega⟩
theorem Upto.mono {bs : List BB} {k m : Nat} (h : Upto bs k) (hm : m ≤ k) : Upto bs m :=
  ⟨fun i hi => h.small i (by omega), fun i hi => h.top i (by omega), fun i hi => h.up i (by omega), fun i hi => h.conc i (by omega)⟩
theorem Upto.succ {bs : List BB} {k : Nat} (h : Upto bs k) (h1 : smallP 18 (bAt bs k).1 = true ∧ smallP 18 (bAt bs k).2 = true) (h2 : hR bs k ≤ 1)
    (h3 : ∀ i, i + 1 = k → cR bs i < cR bs (i + 1) ∧ hR bs i ≤ hR bs (i + 1)) (h4 : ∀ i, i + 2 = k → slp (cR bs) (hR bs) (i + 1) ≤ slp (cR bs) (hR bs) i) : Upto bs (k + 1) := by
  refine ⟨fun i hi => ?_, fun i hi => ?_, fun i hi => ?_, fun i hi => ?_⟩
  · by_cases e : i = k
    · subst e; exact h1
    · exact h.small i (by omega)
  · by_cases e : i = k
    · subst e; exact h2
    · exact h.top i (by omega)
  · by_cases e : i + 1 = k
    · exact h3 i e
    · exact h.up i (by omega)
  · by_cases e : i + 2 = k
    · exact h4 i e
    · exact h.conc i (by omega)
theorem CurveP.upto {bs : List BB} (h : CurveP bs) : Upto bs bs.length := ⟨h.small, h.top, h.up, h.conc⟩
theorem Upto.curve {bs : List BB} (h : Upto bs bs.length) (hl : 2 ≤ bs.length ∧ bs.length ≤ 64) (hf : bAt bs 0 = zeroB) : CurveP bs := ⟨hl, hf, h.small, h.top, h.up, h.conc⟩
/-- The first k pieces are right (the program's order). -/
structure Pieces (bs : List BB) (k : Nat) : Prop where
  up : ∀ i, i < k → cR bs i < cR bs (i + 1) ∧ hR bs i ≤ hR bs (i + 1)
  conc : ∀ i, i + 1 < k → slp (cR bs) (hR bs) (i + 1) ≤ slp (cR bs) (hR bs) i
theorem Pieces.zero (bs : List BB) : Pieces bs 0 := ⟨fun i h => by omega, fun i h => by omega⟩
theorem Pieces.succ {bs : List BB} {k : Nat} (h : Pieces bs k) (h1 : cR bs k < cR bs (k + 1) ∧ hR bs k ≤ hR bs (k + 1)) (h2 : ∀ i, i + 1 = k → slp (cR bs) (hR bs) (i + 1) ≤ slp (cR bs) (hR bs) i) : Pieces bs (k + 1) := by
  refine ⟨fun i hi => ?_, fun i hi => ?_⟩
  · by_cases e : i = k
    · subst e; exact h1
    · exact h.up i (by omega)
  · by_cases e : i + 1 = k
    · exact h2 i e
    · exact h.conc i (by omega)
theorem Pieces.rise {bs : List BB} {k : Nat} (h : Pieces bs k) {i : Nat} : ∀ d, i + d ≤ k → hR bs i ≤ hR bs (i + d)
  | 0, _ => Rat.le_refl
  | d + 1, hd => Rat.le_trans (h.rise d (by omega)) (h.up (i + d) (by omega)).2
theorem Pieces.curve {bs : List BB} {m : Nat} (h : Pieces bs m) (hm : bs.length = m + 1) (hl : 2 ≤ bs.length ∧ bs.length ≤ 64) (hf : bAt bs 0 = zeroB)
    (hs : ∀ i, i < bs.length → smallP 18 (bAt bs i).1 = true ∧ smallP 18 (bAt bs i).2 = true) (ht : hR bs m ≤ 1) : CurveP bs := by
  refine ⟨hl, hf, hs, fun i hi => ?_, fun i hi => h.up i (by omega), fun i hi => h.conc i (by omega)⟩
  have := h.rise (i := i) (m - i) (by omega)
  rw [Nat.add_sub_cancel' (by omega)] at this
  exact Rat.le_trans this ht
theorem CurveP.pieces {bs : List BB} (h : CurveP bs) {m : Nat} (hm : bs.length = m + 1) : Pieces bs m := ⟨fun i hi => h.up i (by omega), fun i hi => h.conc i (by omega)⟩
theorem isP_small {k : Nat} {p : PP} (h : smallP k p = true) : IsP (ratP p.1 p.2) p.1 p.2 ∧ Sz k (ratP p.1 p.2) := by
  obtain ⟨h1, h2, h3⟩ := smallP_iff.1 h
  have := isP_of_ok h3
  exact ⟨this, this.sz h1 h2⟩
theorem sz_isP' {q : Rat} {k : Nat} (h0 : 0 ≤ q) (h : Sz k q) (hk : 0 < k) (hk2 : k ≤ 600) : ∃ x y, IsP q x y := ⟨_, _, h0, rfl, rfl, h.fits hk hk2⟩
/-- What a slope is reckoned of: fractions that fit. -/
theorem rise_isP {a b c d : Rat} (ha : 0 ≤ a) (hc : 0 ≤ c) (h1 : c < d) (h2 : a ≤ b) (sa : Sz 18 a) (sb : Sz 18 b) (sc : Sz 18 c) (sd : Sz 18 d) :
    (∃ x y, IsP (b - a) x y) ∧ (∃ x y, IsP (d - c) x y) ∧ (∃ x y, IsP ((b - a) / (d - c)) x y) ∧ 0 < d - c ∧ 0 ≤ (b - a) / (d - c) ∧ Sz 72 ((b - a) / (d - c)) := by
  have z1 := Sz.sub (a := b) (b := a) (by grind) ha h2 sb sa
  have z2 := Sz.sub (a := d) (b := c) (by grind) hc (Rat.le_of_lt h1) sd sc
  have p : 0 < d - c := by grind
  have q : 0 ≤ b - a := by grind
  have z3 := Sz.div q p z1 z2
  have r := div_nonneg q (Rat.le_of_lt p)
  exact ⟨sz_isP' q z1 (by decide) (by decide), sz_isP' (Rat.le_of_lt p) z2 (by decide) (by decide), sz_isP' r z3 (by decide) (by decide), p, r, z3⟩
end Go.Proofs.YtcncdepjbhnknaaGreatDoor
/- weight's Make, Of, Ratio. -/
namespace Go.Proofs.YtcncdepjbhnknaaGreatDoor
open Go.RowKit Go.Shelf

/-- What Make answers. -/
def Made (s t x y : ByteArray) (e : Int) : Prop :=
  ((natOk s.data.toList && natOk t.data.toList) = false ∧ x = str [] ∧ y = str [] ∧ e = 2) ∨
  ((natOk s.data.toList && natOk t.data.toList) = true ∧ decVal t.data.toList = 0 ∧ x = str [] ∧ y = str [] ∧ e = 10) ∨
  ((natOk s.data.toList && natOk t.data.toList) = true ∧ 0 < decVal t.data.toList ∧ Ans (ratP s t) x y e)



set_option maxRecDepth 100000 in
set_option maxHeartbeats 4000000 in
theorem make_any (s t : ByteArray) (w : World) (hs : s.size ≤ 1000000) (ht : t.size ≤ 1000000) (hT : Tabs w) :
    Calls Tryz.prog 114 #[.string s, .string t] w (PartPost (Made s t) w) := by
  have HT := Lib.hid hT
  clear hT
  cases h1 : natOk s.data.toList
  · have H1 := Lib.hid h1
    clear h1
    go_enter Tryz.func114, Tryz.ntmps114
    go_wp2_with fail
    obtain ⟨w1, hw1⟩ : ∃ w1, w.alloc (.cells #[.string ⟨#[]⟩, .string ⟨#[]⟩] 46) = w1 := ⟨_, rfl⟩
    rw [hw1]
    have HX1 : Hid (Boxes w.heap.size [.cells #[.string ⟨#[]⟩, .string ⟨#[]⟩] 46] w1) := by rw [← hw1]; exact Boxes.one w _
    have HB1 : Hid (Below w.heap.size w w1) := by rw [← hw1]; exact (Below.refl _ w).alloc (Nat.le_refl _) _
    clear hw1
    refine (right_any s _ hs).mono ?_
    rintro e w2 ⟨rfl, hb2⟩
    rw [H1.out]
    have HX2 := Lib.hid (HX1.out.below hb2 HX1.out.lt)
    have HB2 := Lib.hid (HB1.out.trans (hb2.mono HB1.out.size))
    clear hb2
    have r0 := HX2.out.cell 0 0 (b := w.heap.size) rfl rfl rfl
    have r1 := HX2.out.cell 0 1 (b := w.heap.size) rfl rfl rfl
    have f0 := HX2.out.free 0 0 (b := w.heap.size) rfl rfl
    have f1 := HX2.out.free 0 1 (b := w.heap.size) rfl rfl
    go_wp2
    have q := two_put_cells (HX2.out.block 0 (b := w.heap.size) rfl rfl) (.string ⟨#[]⟩) (.string ⟨#[]⟩)
    have HBQ := Lib.hid (two_put_below HB2.out (b := w.heap.size) (by omega) (.string ⟨#[]⟩) (.string ⟨#[]⟩))
    obtain ⟨w9, hw9⟩ : ∃ w9, (w2.setCell ⟨w.heap.size, 0, none⟩ (.string ⟨#[]⟩)).setCell ⟨w.heap.size, 1, none⟩ (.string ⟨#[]⟩) = w9 := ⟨_, rfl⟩
    rw [hw9] at q HBQ
    obtain ⟨q0, q1⟩ := q
    rw [hw9]
    clear r0 r1 f0 f1 hw9
    go_wp2
    refine bodyPost_ret (v := .tuple #[.agg #[.string ⟨#[]⟩, .string ⟨#[]⟩], .int .i64 2]) (by simp [results, Tryz.f114, go_sem, q0, q1]) rfl ⟨_, _, _, rfl, ?_, HBQ.out⟩
    exact .inl ⟨by rw [H1.out]; rfl, rfl, rfl, rfl⟩
  · have H1 := Lib.hid h1
    clear h1
    cases h2 : natOk t.data.toList
    · have H2 := Lib.hid h2
      clear h2
      go_enter Tryz.func114, Tryz.ntmps114
      go_wp2_with fail
      obtain ⟨w1, hw1⟩ : ∃ w1, w.alloc (.cells #[.string ⟨#[]⟩, .string ⟨#[]⟩] 46) = w1 := ⟨_, rfl⟩
      rw [hw1]
      have HX1 : Hid (Boxes w.heap.size [.cells #[.string ⟨#[]⟩, .string ⟨#[]⟩] 46] w1) := by rw [← hw1]; exact Boxes.one w _
      have HB1 : Hid (Below w.heap.size w w1) := by rw [← hw1]; exact (Below.refl _ w).alloc (Nat.le_refl _) _
      clear hw1
      refine (right_any s _ hs).mono ?_
      rintro e w2 ⟨rfl, hb2⟩
      rw [H1.out]
      have HX2 := Lib.hid (HX1.out.below hb2 HX1.out.lt)
      have HB2 := Lib.hid (HB1.out.trans (hb2.mono HB1.out.size))
      clear hb2
      go_wp2_with fail
      refine (right_any t _ ht).mono ?_
      rintro e w3 ⟨rfl, hb3⟩
      rw [H2.out]
      have HX3 := Lib.hid (HX2.out.below hb3 HX2.out.lt)
      have HB3 := Lib.hid (HB2.out.trans (hb3.mono HB2.out.size))
      clear hb3
      have r0 := HX3.out.cell 0 0 (b := w.heap.size) rfl rfl rfl
      have r1 := HX3.out.cell 0 1 (b := w.heap.size) rfl rfl rfl
      have f0 := HX3.out.free 0 0 (b := w.heap.size) rfl rfl
      have f1 := HX3.out.free 0 1 (b := w.heap.size) rfl rfl
      go_wp2
      have q := two_put_cells (HX3.out.block 0 (b := w.heap.size) rfl rfl) (.string ⟨#[]⟩) (.string ⟨#[]⟩)
      have HBQ := Lib.hid (two_put_below HB3.out (b := w.heap.size) (by omega) (.string ⟨#[]⟩) (.string ⟨#[]⟩))
      obtain ⟨w9, hw9⟩ : ∃ w9, (w3.setCell ⟨w.heap.size, 0, none⟩ (.string ⟨#[]⟩)).setCell ⟨w.heap.size, 1, none⟩ (.string ⟨#[]⟩) = w9 := ⟨_, rfl⟩
      rw [hw9] at q HBQ
      obtain ⟨q0, q1⟩ := q
      rw [hw9]
      clear r0 r1 f0 f1 hw9
      go_wp2
      refine bodyPost_ret (v := .tuple #[.agg #[.string ⟨#[]⟩, .string ⟨#[]⟩], .int .i64 2]) (by simp [results, Tryz.f114, go_sem, q0, q1]) rfl ⟨_, _, _, rfl, ?_, HBQ.out⟩
      exact .inl ⟨by rw [H2.out, Bool.and_false], rfl, rfl, rfl⟩
    · have HZ := Lib.hid (zero_iff h2)
      have H2 := Lib.hid h2
      clear h2
      have dl : t.toList = t.data.toList := ByteArray.toList_eq ..
      by_cases h0 : decVal t.data.toList = 0
      · have hz : (t.toList == [48]) = true := by
          rw [dl, HZ.out.2 h0]; rfl
        have H0 := Lib.hid h0
        clear h0 dl
        go_enter Tryz.func114, Tryz.ntmps114
        go_wp2_with fail
        obtain ⟨w1, hw1⟩ : ∃ w1, w.alloc (.cells #[.string ⟨#[]⟩, .string ⟨#[]⟩] 46) = w1 := ⟨_, rfl⟩
        rw [hw1]
        have HX1 : Hid (Boxes w.heap.size [.cells #[.string ⟨#[]⟩, .string ⟨#[]⟩] 46] w1) := by rw [← hw1]; exact Boxes.one w _
        have HB1 : Hid (Below w.heap.size w w1) := by rw [← hw1]; exact (Below.refl _ w).alloc (Nat.le_refl _) _
        clear hw1
        refine (right_any s _ hs).mono ?_
        rintro e w2 ⟨rfl, hb2⟩
        rw [H1.out]
        have HX2 := Lib.hid (HX1.out.below hb2 HX1.out.lt)
        have HB2 := Lib.hid (HB1.out.trans (hb2.mono HB1.out.size))
        clear hb2
        go_wp2_with fail
        refine (right_any t _ ht).mono ?_
        rintro e w3 ⟨rfl, hb3⟩
        rw [H2.out]
        have HX3 := Lib.hid (HX2.out.below hb3 HX2.out.lt)
        have HB3 := Lib.hid (HB2.out.trans (hb3.mono HB2.out.size))
        clear hb3
        have r0 := HX3.out.cell 0 0 (b := w.heap.size) rfl rfl rfl
        have r1 := HX3.out.cell 0 1 (b := w.heap.size) rfl rfl rfl
        have f0 := HX3.out.free 0 0 (b := w.heap.size) rfl rfl
        have f1 := HX3.out.free 0 1 (b := w.heap.size) rfl rfl
        go_wp2
        have q := two_put_cells (HX3.out.block 0 (b := w.heap.size) rfl rfl) (.string ⟨#[]⟩) (.string ⟨#[]⟩)
        have HBQ := Lib.hid (two_put_below HB3.out (b := w.heap.size) (by omega) (.string ⟨#[]⟩) (.string ⟨#[]⟩))
        obtain ⟨w9, hw9⟩ : ∃ w9, (w3.setCell ⟨w.heap.size, 0, none⟩ (.string ⟨#[]⟩)).setCell ⟨w.heap.size, 1, none⟩ (.string ⟨#[]⟩) = w9 := ⟨_, rfl⟩
        rw [hw9] at q HBQ
        obtain ⟨q0, q1⟩ := q
        rw [hw9]
        clear r0 r1 f0 f1 hw9
        go_wp2
        refine bodyPost_ret (v := .tuple #[.agg #[.string ⟨#[]⟩, .string ⟨#[]⟩], .int .i64 10]) (by simp [results, Tryz.f114, go_sem, q0, q1]) rfl ⟨_, _, _, rfl, ?_, HBQ.out⟩
        exact .inr (.inl ⟨by rw [H1.out, H2.out]; rfl, H0.out, rfl, rfl, rfl⟩)
      · have hz : (t.toList == [48]) = false := by
          rw [beq_eq_false_iff_ne, dl]
          intro hc
          refine h0 (HZ.out.1 ?_)
          rw [← str_eq t, hc]; rfl
        have H0 := Lib.hid h0
        clear h0 dl
        obtain ⟨cs1, cs2⟩ := canon_of_nat H1.out
        obtain ⟨ct1, ct2⟩ := canon_of_nat H2.out
        have hls := decVal_lim cs1.dig (j := 70) (by rw [← size_len]; omega)
        have hlt := decVal_lim ct1.dig (j := 70) (by rw [← size_len]; omega)
        have HDS := Lib.hid cs1.dig
        have HDT := Lib.hid ct1.dig
        clear cs1 cs2 ct1 ct2
        go_enter Tryz.func114, Tryz.ntmps114
        go_wp2_with fail
        obtain ⟨w1, hw1⟩ : ∃ w1, w.alloc (.cells #[.string ⟨#[]⟩, .string ⟨#[]⟩] 46) = w1 := ⟨_, rfl⟩
        rw [hw1]
        have HX1 : Hid (Boxes w.heap.size [.cells #[.string ⟨#[]⟩, .string ⟨#[]⟩] 46] w1) := by rw [← hw1]; exact Boxes.one w _
        have HB1 : Hid (Below w.heap.size w w1) := by rw [← hw1]; exact (Below.refl _ w).alloc (Nat.le_refl _) _
        clear hw1
        refine (right_any s _ hs).mono ?_
        rintro e w2 ⟨rfl, hb2⟩
        rw [H1.out]
        have HX2 := Lib.hid (HX1.out.below hb2 HX1.out.lt)
        have HB2 := Lib.hid (HB1.out.trans (hb2.mono HB1.out.size))
        clear hb2
        go_wp2_with fail
        refine (right_any t _ ht).mono ?_
        rintro e w3 ⟨rfl, hb3⟩
        rw [H2.out]
        have HX3 := Lib.hid (HX2.out.below hb3 HX2.out.lt)
        have HB3 := Lib.hid (HB2.out.trans (hb3.mono HB2.out.size))
        clear hb3
        go_wp2_with fail
        refine (of_any s hs HDS.out _).mono ?_
        rintro e w4 ⟨vn, rfl, hN, hb4⟩
        obtain ⟨pn, ln, cn, rfl⟩ := hN.form'
        have HN4 := Lib.hid hN
        have HX4 := Lib.hid (HX3.out.below hb4 HX3.out.lt)
        have HB4 := Lib.hid (HB3.out.trans (hb4.mono HB3.out.size))
        clear hN hb4
        go_wp2_with fail
        refine (of_any t ht HDT.out _).mono ?_
        rintro e w5 ⟨vd, rfl, hD, hb5⟩
        obtain ⟨pd, ld, cd, rfl⟩ := hD.form'
        have HD5 := Lib.hid hD
        have HN5 := Lib.hid (HN4.out.after hb5 (Nat.le_refl _))
        have HX5 := Lib.hid (HX4.out.below hb5 HX4.out.lt)
        have HB5 := Lib.hid (HB4.out.trans (hb5.mono HB4.out.size))
        clear hD hb5
        go_wp2_with fail
        refine (part_any HN5.out HD5.out (by omega) (by omega) (by have := H0.out; omega) (HT.out.below HB5.out (Nat.le_refl _))).mono ?_
        rintro e w6 ⟨x, y, n, rfl, hR, hb6⟩
        have HR := Lib.hid hR
        have HX6 := Lib.hid (HX5.out.below hb6 HX5.out.lt)
        have HB6 := Lib.hid (HB5.out.trans (hb6.mono HB5.out.size))
        clear hR hb6
        have r0 := HX6.out.cell 0 0 (b := w.heap.size) rfl rfl rfl
        have r1 := HX6.out.cell 0 1 (b := w.heap.size) rfl rfl rfl
        have f0 := HX6.out.free 0 0 (b := w.heap.size) rfl rfl
        have f1 := HX6.out.free 0 1 (b := w.heap.size) rfl rfl
        go_wp2
        have q := two_put_cells (HX6.out.block 0 (b := w.heap.size) rfl rfl) (.string x) (.string y)
        have HBQ := Lib.hid (two_put_below HB6.out (b := w.heap.size) (by omega) (.string x) (.string y))
        obtain ⟨w9, hw9⟩ : ∃ w9, (w6.setCell ⟨w.heap.size, 0, none⟩ (.string x)).setCell ⟨w.heap.size, 1, none⟩ (.string y) = w9 := ⟨_, rfl⟩
        rw [hw9] at q HBQ
        obtain ⟨q0, q1⟩ := q
        rw [hw9]
        clear r0 r1 f0 f1 hw9
        go_wp2
        refine bodyPost_ret (v := .tuple #[.agg #[.string x, .string y], .int .i64 n]) (by simp [results, Tryz.f114, go_sem, q0, q1]) rfl ⟨_, _, _, rfl, ?_, HBQ.out⟩
        exact .inr (.inr ⟨by rw [H1.out, H2.out]; rfl, by have := H0.out; omega, HR.out⟩)
end Go.Proofs.YtcncdepjbhnknaaGreatDoor
/- weight's Of, Ratio. -/
namespace Go.Proofs.YtcncdepjbhnknaaGreatDoor
open Go.RowKit Go.Shelf

/-- What Of answers. -/
def OfPost (n : Int) (w : World) (e : Ending) (w' : World) : Prop :=
  ∃ s r, e = .returned (.tuple #[.string s, .int .i64 r]) ∧ ((n < 0 ∧ s = str [] ∧ r = 11) ∨ (0 ≤ n ∧ s = str (Lib.decDigits n.toNat) ∧ r = 0)) ∧ Below w.heap.size w w'

theorem itoa_nonneg {n : Int} (h : 0 ≤ n) : Lib.itoa n = Lib.decDigits n.toNat := by
  unfold Lib.itoa
  rw [if_neg (by omega)]

set_option maxRecDepth 100000 in
set_option maxHeartbeats 2000000 in
theorem ofInt_any (n : Int) (h0 : -9223372036854775808 ≤ n) (h1 : n ≤ 9223372036854775807) (w : World) (hT : Tabs w) :
    Calls Tryz.prog 113 #[.int .i64 n] w (OfPost n w) := by
  have HI := Lib.hid (Tryz.strconv_Itoa n h0 h1 w hT)
  have HT := Lib.hid hT
  have H01 := Lib.hid (And.intro h0 h1)
  clear hT h0 h1
  by_cases hn : n < 0
  · go_enter Tryz.func113, Tryz.ntmps113
    go_wp2
    go_ret2
    exact ⟨_, _, rfl, .inl ⟨hn, rfl, rfl⟩, Below.refl _ _⟩
  · go_enter Tryz.func113, Tryz.ntmps113
    go_wp2_with fail
    refine HI.out.mono ?_
    rintro e w2 ⟨rfl, k, os, hw⟩
    have HB : Hid (Below w.heap.size w w2) := by rw [hw]; exact Lib.below_grow _ _ (Nat.le_refl _) _ _
    clear hw
    obtain ⟨s, hs⟩ : ∃ s, (⟨(Lib.itoa n).toArray⟩ : ByteArray) = s := ⟨_, rfl⟩
    rw [hs]
    have HS : Hid (s = str (Lib.decDigits n.toNat)) := by show _ = _; rw [← hs, itoa_nonneg (by omega)]; rfl
    clear hs
    go_wp2
    go_ret2
    exact ⟨_, _, rfl, .inr ⟨by omega, HS.out, rfl⟩, HB.out⟩

/-- What Ratio answers. -/
def RatioR (a b : Int) (x y : ByteArray) (e : Int) : Prop :=
  ((a < 0 ∨ b < 0) ∧ x = str [] ∧ y = str [] ∧ e = 11) ∨ (0 ≤ a ∧ b = 0 ∧ x = str [] ∧ y = str [] ∧ e = 10) ∨ (0 ≤ a ∧ 0 < b ∧ Ans (mkRat (a.toNat : Nat) b.toNat) x y e)

theorem natOk_digits {n : Nat} (h : (Lib.decDigits n).length ≤ 600) : natOk (Lib.decDigits n) = true := natOk_of_canon (canon_decDigits n) h
theorem made_digits {a b : Nat} (ha : (Lib.decDigits a).length ≤ 600) (hb : (Lib.decDigits b).length ≤ 600) {x y : ByteArray} {e : Int} (h : Made (str (Lib.decDigits a)) (str (Lib.decDigits b)) x y e) :
    (b = 0 ∧ x = str [] ∧ y = str [] ∧ e = 10) ∨ (0 < b ∧ Ans (mkRat (a : Nat) b) x y e) := by
  unfold Made ratP at h
  rw [str_data, str_data, natOk_digits ha, natOk_digits hb, decVal_decDigits, decVal_decDigits] at h
  rcases h with ⟨h, _⟩ | ⟨_, h0, h1, h2, h3⟩ | ⟨_, h0, h1⟩
  · cases h
  · exact .inl ⟨h0, h1, h2, h3⟩
  · exact .inr ⟨h0, h1⟩
theorem i64_pow {n : Int} (h : n ≤ 9223372036854775807) : (Lib.decDigits n.toNat).length ≤ 600 := Nat.le_trans (decDigits_length_le (k := 20) (by omega) (by omega)) (by omega)
theorem ratio_made {a b : Int} (h0 : 0 ≤ a) (h1 : 0 ≤ b) (ha : a ≤ 9223372036854775807) (hb : b ≤ 9223372036854775807) {s t x y : ByteArray} {e : Int} (hs : s = str (Lib.decDigits a.toNat)) (ht : t = str (Lib.decDigits b.toNat)) (h : Made s t x y e) : RatioR a b x y e := by
  subst hs; subst ht
  rcases made_digits (i64_pow ha) (i64_pow hb) h with ⟨k1, k2, k3, k4⟩ | ⟨k1, k2⟩
  · exact .inr (.inl ⟨h0, by omega, k2, k3, k4⟩)
  · exact .inr (.inr ⟨h0, by omega, k2⟩)



set_option maxRecDepth 100000 in
set_option maxHeartbeats 4000000 in
theorem ratio_any (a b : Int) (ha0 : -9223372036854775808 ≤ a) (ha1 : a ≤ 9223372036854775807) (hb0 : -9223372036854775808 ≤ b) (hb1 : b ≤ 9223372036854775807) (w : World) (hT : Tabs w) :
    Calls Tryz.prog 72 #[.int .i64 a, .int .i64 b] w (PartPost (RatioR a b) w) := by
  have HT := Lib.hid hT
  clear hT
  go_enter Tryz.func72, Tryz.ntmps72
  go_wp2_with fail
  obtain ⟨w1, hw1⟩ : ∃ w1, w.alloc (.cells #[.string ⟨#[]⟩, .string ⟨#[]⟩] 46) = w1 := ⟨_, rfl⟩
  rw [hw1]
  have HX1 : Hid (Boxes w.heap.size [.cells #[.string ⟨#[]⟩, .string ⟨#[]⟩] 46] w1) := by rw [← hw1]; exact Boxes.one w _
  have HB1 : Hid (Below w.heap.size w w1) := by rw [← hw1]; exact (Below.refl _ w).alloc (Nat.le_refl _) _
  clear hw1
  refine (ofInt_any a ha0 ha1 _ (HT.out.below HB1.out (Nat.le_refl _))).mono ?_
  rintro e w2 ⟨s, r1, rfl, hR1, hb2⟩
  have HX2 := Lib.hid (HX1.out.below hb2 HX1.out.lt)
  have HB2 := Lib.hid (HB1.out.trans (hb2.mono HB1.out.size))
  have HR1 := Lib.hid hR1
  clear hb2 hR1
  go_wp2_with fail
  refine (ofInt_any b hb0 hb1 _ (HT.out.below HB2.out (Nat.le_refl _))).mono ?_
  rintro e w3 ⟨t, r2, rfl, hR2, hb3⟩
  have HX3 := Lib.hid (HX2.out.below hb3 HX2.out.lt)
  have HB3 := Lib.hid (HB2.out.trans (hb3.mono HB2.out.size))
  have HR2 := Lib.hid hR2
  clear hb3 hR2
  by_cases hneg : a < 0 ∨ b < 0
  ·
    have r0 := HX3.out.cell 0 0 (b := w.heap.size) rfl rfl rfl
    have r1 := HX3.out.cell 0 1 (b := w.heap.size) rfl rfl rfl
    have f0 := HX3.out.free 0 0 (b := w.heap.size) rfl rfl
    have f1 := HX3.out.free 0 1 (b := w.heap.size) rfl rfl
    rcases HR1.out with ⟨k1, k2, rfl⟩ | ⟨k1, k2, rfl⟩
    · clear k1 k2
      go_wp2
      have q := two_put_cells (HX3.out.block 0 (b := w.heap.size) rfl rfl) (.string ⟨#[]⟩) (.string ⟨#[]⟩)
      have HBQ := Lib.hid (two_put_below HB3.out (b := w.heap.size) (by omega) (.string ⟨#[]⟩) (.string ⟨#[]⟩))
      obtain ⟨w9, hw9⟩ : ∃ w9, (w3.setCell ⟨w.heap.size, 0, none⟩ (.string ⟨#[]⟩)).setCell ⟨w.heap.size, 1, none⟩ (.string ⟨#[]⟩) = w9 := ⟨_, rfl⟩
      rw [hw9] at q HBQ
      obtain ⟨q0, q1⟩ := q
      rw [hw9]
      clear r0 r1 f0 f1 hw9
      go_wp2
      refine bodyPost_ret (v := .tuple #[.agg #[.string ⟨#[]⟩, .string ⟨#[]⟩], .int .i64 11]) (by simp [results, Tryz.f72, go_sem, q0, q1]) rfl ⟨_, _, _, rfl, ?_, HBQ.out⟩
      exact .inl ⟨hneg, rfl, rfl, rfl⟩
    · rcases HR2.out with ⟨m1, m2, rfl⟩ | ⟨m1, m2, rfl⟩
      · clear k1 k2 m1 m2
        go_wp2
        have q := two_put_cells (HX3.out.block 0 (b := w.heap.size) rfl rfl) (.string ⟨#[]⟩) (.string ⟨#[]⟩)
        have HBQ := Lib.hid (two_put_below HB3.out (b := w.heap.size) (by omega) (.string ⟨#[]⟩) (.string ⟨#[]⟩))
        obtain ⟨w9, hw9⟩ : ∃ w9, (w3.setCell ⟨w.heap.size, 0, none⟩ (.string ⟨#[]⟩)).setCell ⟨w.heap.size, 1, none⟩ (.string ⟨#[]⟩) = w9 := ⟨_, rfl⟩
        rw [hw9] at q HBQ
        obtain ⟨q0, q1⟩ := q
        rw [hw9]
        clear r0 r1 f0 f1 hw9
        go_wp2
        refine bodyPost_ret (v := .tuple #[.agg #[.string ⟨#[]⟩, .string ⟨#[]⟩], .int .i64 11]) (by simp [results, Tryz.f72, go_sem, q0, q1]) rfl ⟨_, _, _, rfl, ?_, HBQ.out⟩
        exact .inl ⟨hneg, rfl, rfl, rfl⟩
      · exfalso; omega
  · have hz : r1 = 0 ∧ r2 = 0 ∧ Hid (s = str (Lib.decDigits a.toNat)) ∧ Hid (t = str (Lib.decDigits b.toNat)) ∧ 0 ≤ a ∧ 0 ≤ b := by
      rcases HR1.out with ⟨k1, k2, k3⟩ | ⟨k1, k2, k3⟩
      · omega
      · rcases HR2.out with ⟨m1, m2, m3⟩ | ⟨m1, m2, m3⟩
        · omega
        · exact ⟨k3, m3, k2, m2, k1, m1⟩
    obtain ⟨rfl, rfl, HS, HU, ka, kb⟩ := hz
    have hs : s.size ≤ 1000000 := by rw [HS.out, str_size]; exact Nat.le_trans (i64_pow ha1) (by omega)
    have ht : t.size ≤ 1000000 := by rw [HU.out, str_size]; exact Nat.le_trans (i64_pow hb1) (by omega)
    clear hneg
    go_wp2_with fail
    refine (make_any s t _ hs ht (HT.out.below HB3.out (Nat.le_refl _))).mono ?_
    rintro e w4 ⟨x, y, n, rfl, hR, hb4⟩
    have HR := Lib.hid hR
    have HX4 := Lib.hid (HX3.out.below hb4 HX3.out.lt)
    have HB4 := Lib.hid (HB3.out.trans (hb4.mono HB3.out.size))
    clear hR hb4
    have r0 := HX4.out.cell 0 0 (b := w.heap.size) rfl rfl rfl
    have r1 := HX4.out.cell 0 1 (b := w.heap.size) rfl rfl rfl
    have f0 := HX4.out.free 0 0 (b := w.heap.size) rfl rfl
    have f1 := HX4.out.free 0 1 (b := w.heap.size) rfl rfl
    go_wp2
    have q := two_put_cells (HX4.out.block 0 (b := w.heap.size) rfl rfl) (.string x) (.string y)
    have HBQ := Lib.hid (two_put_below HB4.out (b := w.heap.size) (by omega) (.string x) (.string y))
    obtain ⟨w9, hw9⟩ : ∃ w9, (w4.setCell ⟨w.heap.size, 0, none⟩ (.string x)).setCell ⟨w.heap.size, 1, none⟩ (.string y) = w9 := ⟨_, rfl⟩
    rw [hw9] at q HBQ
    obtain ⟨q0, q1⟩ := q
    rw [hw9]
    clear r0 r1 f0 f1 hw9
    go_wp2
    refine bodyPost_ret (v := .tuple #[.agg #[.string x, .string y], .int .i64 n]) (by simp [results, Tryz.f72, go_sem, q0, q1]) rfl ⟨_, _, _, rfl, ?_, HBQ.out⟩
    exact ratio_made ka kb ha1 hb1 HS.out HU.out HR.out
end Go.Proofs.YtcncdepjbhnknaaGreatDoor
/- Values of fractions, and fractions in blocks of their own. -/
namespace Go.Proofs.YtcncdepjbhnknaaGreatDoor
open Go.RowKit Go.Shelf

/-- A fraction's cells, laid anew. -/
abbrev pObj (x y : ByteArray) : Obj := .cells #[.string x, .string y] 46
/-- A call that answers this value. -/
def ValPost (v : Value) (w : World) (e : Ending) (w' : World) : Prop := e = .returned v ∧ Below w.heap.size w w'
/-- The value of a fraction. -/
abbrev pV (s t : ByteArray) : Value := .agg #[.string s, .string t]

/-- Fractions that lie in blocks of their own. -/
def Ats (l : List (Nat × ByteArray × ByteArray)) (w : World) : Prop := ∀ (i : Nat) (p : Nat × ByteArray × ByteArray), l[i]? = some p → w.heap[p.1]? = some (pObj p.2.1 p.2.2)
theorem Ats.nil (w : World) : Ats [] w := fun i p h => by simp at h
theorem Ats.after {l : List (Nat × ByteArray × ByteArray)} {w w' : World} {B : Nat} (h : Ats l w) (hb : Below B w w') (hB : w.heap.size ≤ B) : Ats l w' := fun i p hp => by
  have h1 := h i p hp
  have h2 := (Array.getElem?_eq_some_iff.1 h1).1
  rw [hb.block p.1 (by omega)]
  exact h1
theorem Ats.push {l : List (Nat × ByteArray × ByteArray)} {w : World} (h : Ats l w) (x y : ByteArray) : Ats ((w.heap.size, x, y) :: l) (w.alloc (pObj x y)) := fun i p hp => by
  cases i with
  | zero =>
    obtain rfl := Option.some.inj hp
    exact World.alloc_heap_new w _
  | succ i =>
    have h1 := h i p (by simpa using hp)
    have h2 := (Array.getElem?_eq_some_iff.1 h1).1
    rw [Below.heap_alloc _ _ _ (by omega)]
    exact h1
theorem Ats.c0 {l : List (Nat × ByteArray × ByteArray)} {w : World} (h : Ats l w) (i : Nat) {b : Nat} {x y : ByteArray} (hp : l[i]? = some (b, x, y)) : w.cell? ⟨b, 0, none⟩ = some (.string x) := known_cell (h i _ hp) 0 rfl
theorem Ats.c1 {l : List (Nat × ByteArray × ByteArray)} {w : World} (h : Ats l w) (i : Nat) {b : Nat} {x y : ByteArray} (hp : l[i]? = some (b, x, y)) : w.cell? ⟨b, 1, none⟩ = some (.string y) := known_cell (h i _ hp) 1 rfl
theorem Ats.lt {l : List (Nat × ByteArray × ByteArray)} {w : World} (h : Ats l w) (i : Nat) {p : Nat × ByteArray × ByteArray} (hp : l[i]? = some p) : p.1 < w.heap.size := (Array.getElem?_eq_some_iff.1 (h i _ hp)).1

theorem pl_two (w : World) (s t u v : ByteArray) : PL (w.alloc (.cells #[.string s, .string t, .string u, .string v] 46)) (.slice (some ⟨w.heap.size, 0, none⟩) 2 2) [(s, t), (u, v)] := by
  refine ⟨_, 2, rfl, Nat.le_refl _, by simp [maxLen], fun _ => ⟨_, 0, rfl, by simp, fun j hj => ?_⟩⟩
  match j, hj with
  | 0, _ => exact ⟨cell_new _ _ _ 0 rfl, cell_new _ _ _ 1 rfl⟩
  | 1, _ => exact ⟨cell_new _ _ _ 2 rfl, cell_new _ _ _ 3 rfl⟩
  | j + 2, h => simp at h; try omega

end Go.Proofs.YtcncdepjbhnknaaGreatDoor
/- weight's operations upon known fractions. -/
namespace Go.Proofs.YtcncdepjbhnknaaGreatDoor
open Go.RowKit Go.Shelf

theorem IsP.le {q : Rat} {s t : ByteArray} (h : IsP q s t) : s.size ≤ 1000000 ∧ t.size ≤ 1000000 := by
  obtain ⟨h1, h2⟩ := h.fits
  rw [h.num, h.den, str_size, str_size]
  exact ⟨Nat.le_trans h1 (by decide), Nat.le_trans h2 (by decide)⟩
theorem IsP.oks {q r : Rat} {s t u v : ByteArray} (h : IsP q s t) (k : IsP r u v) : (okP s t && okP u v) = true := by rw [h.ok, k.ok]; rfl
theorem IsP.one {q : Rat} {s t u v : ByteArray} (h : IsP q s t) (k : IsP q u v) : s = u ∧ t = v := ⟨by rw [h.num, k.num], by rw [h.den, k.den]⟩
theorem ans_to {q p : Rat} {x y u v : ByteArray} {n : Int} (h : Ans q u v n) (hx : IsP p x y) (hq : q = p) : u = x ∧ v = y ∧ n = 0 := by
  subst hq
  obtain ⟨h1, h2⟩ := h.fit hx.fits
  obtain ⟨h3, h4⟩ := h1.one hx
  exact ⟨h3, h4, h2⟩

theorem add_to {q r p : Rat} {s t u v x y : ByteArray} (ha : IsP q s t) (hb : IsP r u v) (hx : IsP p x y) (hq : q + r = p) (w : World) (hT : Tabs w) :
    Calls Tryz.prog 27 #[pV s t, pV u v] w (ValPost (.tuple #[pV x y, .int .i64 0]) w) := by
  refine (add_rat s t u v w ha.le.1 ha.le.2 hb.le.1 hb.le.2 hT).mono ?_
  rintro e w' ⟨x', y', n, rfl, h, hbb⟩
  rcases h with ⟨h, _⟩ | ⟨_, h⟩
  · rw [ha.oks hb] at h; cases h
  · rw [ha.rat, hb.rat] at h
    obtain ⟨rfl, rfl, rfl⟩ := ans_to h hx hq
    exact ⟨rfl, hbb⟩
theorem mul_to {q r p : Rat} {s t u v x y : ByteArray} (ha : IsP q s t) (hb : IsP r u v) (hx : IsP p x y) (hq : q * r = p) (w : World) (hT : Tabs w) :
    Calls Tryz.prog 29 #[pV s t, pV u v] w (ValPost (.tuple #[pV x y, .int .i64 0]) w) := by
  refine (mul_rat s t u v w ha.le.1 ha.le.2 hb.le.1 hb.le.2 hT).mono ?_
  rintro e w' ⟨x', y', n, rfl, h, hbb⟩
  rcases h with ⟨h, _⟩ | ⟨_, h⟩
  · rw [ha.oks hb] at h; cases h
  · rw [ha.rat, hb.rat] at h
    obtain ⟨rfl, rfl, rfl⟩ := ans_to h hx hq
    exact ⟨rfl, hbb⟩
theorem sub_to {q r p : Rat} {s t u v x y : ByteArray} (ha : IsP q s t) (hb : IsP r u v) (hx : IsP p x y) (hq : q - r = p) (w : World) (hT : Tabs w) :
    Calls Tryz.prog 41 #[pV s t, pV u v] w (ValPost (.tuple #[pV x y, .int .i64 0]) w) := by
  refine (sub_rat s t u v w ha.le.1 ha.le.2 hb.le.1 hb.le.2 hT).mono ?_
  rintro e w' ⟨x', y', n, rfl, h, hbb⟩
  rcases h with ⟨h, _⟩ | ⟨_, h⟩
  · rw [ha.oks hb] at h; cases h
  · rw [ha.rat, hb.rat] at h
    rcases h with ⟨h, _⟩ | ⟨_, h⟩
    · have := hx.nn; grind
    · obtain ⟨rfl, rfl, rfl⟩ := ans_to h hx hq
      exact ⟨rfl, hbb⟩
theorem sub_less {q r : Rat} {s t u v : ByteArray} (ha : IsP q s t) (hb : IsP r u v) (hq : q < r) (w : World) (hT : Tabs w) :
    Calls Tryz.prog 41 #[pV s t, pV u v] w (ValPost (.tuple #[pV ⟨#[]⟩ ⟨#[]⟩, .int .i64 11]) w) := by
  refine (sub_rat s t u v w ha.le.1 ha.le.2 hb.le.1 hb.le.2 hT).mono ?_
  rintro e w' ⟨x', y', n, rfl, h, hbb⟩
  rcases h with ⟨h, _⟩ | ⟨_, h⟩
  · rw [ha.oks hb] at h; cases h
  · rw [ha.rat, hb.rat] at h
    rcases h with ⟨_, rfl, rfl, rfl⟩ | ⟨h, _⟩
    · exact ⟨rfl, hbb⟩
    · grind
theorem div_to {q r p : Rat} {s t u v x y : ByteArray} (ha : IsP q s t) (hb : IsP r u v) (hx : IsP p x y) (h0 : 0 < r) (hq : q / r = p) (w : World) (hT : Tabs w) :
    Calls Tryz.prog 104 #[pV s t, pV u v] w (ValPost (.tuple #[pV x y, .int .i64 0]) w) := by
  refine (div_rat s t u v w ha.le.1 ha.le.2 hb.le.1 hb.le.2 hT).mono ?_
  rintro e w' ⟨x', y', n, rfl, h, hbb⟩
  rcases h with ⟨h, _⟩ | ⟨_, h⟩
  · rw [ha.oks hb] at h; cases h
  · rw [ha.rat, hb.rat] at h
    rcases h with ⟨h, _⟩ | ⟨_, h⟩
    · grind
    · obtain ⟨rfl, rfl, rfl⟩ := ans_to h hx hq
      exact ⟨rfl, hbb⟩
theorem div_none {q r : Rat} {s t u v : ByteArray} (ha : IsP q s t) (hb : IsP r u v) (h0 : r = 0) (w : World) (hT : Tabs w) :
    Calls Tryz.prog 104 #[pV s t, pV u v] w (ValPost (.tuple #[pV ⟨#[]⟩ ⟨#[]⟩, .int .i64 10]) w) := by
  refine (div_rat s t u v w ha.le.1 ha.le.2 hb.le.1 hb.le.2 hT).mono ?_
  rintro e w' ⟨x', y', n, rfl, h, hbb⟩
  rcases h with ⟨h, _⟩ | ⟨_, h⟩
  · rw [ha.oks hb] at h; cases h
  · rw [ha.rat, hb.rat] at h
    rcases h with ⟨_, rfl, rfl, rfl⟩ | ⟨h, _⟩
    · exact ⟨rfl, hbb⟩
    · grind
theorem cmp_to {q r : Rat} {n : Int} {s t u v : ByteArray} (ha : IsP q s t) (hb : IsP r u v) (hn : sgnR q r = n) (w : World) :
    Calls Tryz.prog 31 #[pV s t, pV u v] w (ValPost (.int .i64 n) w) := by
  refine (compare_rat s t u v w ha.le.1 ha.le.2 hb.le.1 hb.le.2).mono ?_
  rintro e w' ⟨m, rfl, h, hbb⟩
  rcases h with ⟨h, _⟩ | ⟨_, h⟩
  · rw [ha.oks hb] at h; cases h
  · rw [ha.rat, hb.rat, hn] at h
    subst h
    exact ⟨rfl, hbb⟩
theorem fits_isP {q : Rat} (h0 : 0 ≤ q) (h : Fits q) : ∃ x y, IsP q x y := ⟨_, _, h0, rfl, rfl, h⟩
theorem sz_isP {q : Rat} {k : Nat} (h0 : 0 ≤ q) (h : Sz k q) (hk : 0 < k) (hk2 : k ≤ 600) : ∃ x y, IsP q x y := fits_isP h0 (h.fits hk hk2)
theorem zero_num {q : Rat} {s t : ByteArray} (h : IsP q s t) (h0 : q = 0) : s = ⟨#[48]⟩ := by
  subst h0
  rw [h.num]
  decide +kernel
theorem num_none {q : Rat} {s t : ByteArray} (h : IsP q s t) (h0 : s = ⟨#[48]⟩) : q = 0 := by
  have h1 := h.vals.1
  rw [h0] at h1
  have h2 : decVal (⟨#[48]⟩ : ByteArray).data.toList = 0 := by decide
  rw [h2] at h1
  have h3 := num_toNat h.nn
  rw [← h1] at h3
  exact Rat.num_eq_zero.1 h3.symm
theorem pl_three (w : World) (s t u v x y : ByteArray) : PL (w.alloc (.cells #[.string s, .string t, .string u, .string v, .string x, .string y] 46)) (.slice (some ⟨w.heap.size, 0, none⟩) 3 3) [(s, t), (u, v), (x, y)] := by
  refine ⟨_, 3, rfl, Nat.le_refl _, by simp [maxLen], fun _ => ⟨_, 0, rfl, by simp, fun j hj => ?_⟩⟩
  match j, hj with
  | 0, _ => exact ⟨cell_new _ _ _ 0 rfl, cell_new _ _ _ 1 rfl⟩
  | 1, _ => exact ⟨cell_new _ _ _ 2 rfl, cell_new _ _ _ 3 rfl⟩
  | 2, _ => exact ⟨cell_new _ _ _ 4 rfl, cell_new _ _ _ 5 rfl⟩
  | j + 3, h => simp at h; try omega
theorem World.alloc_size (w : World) (o : Obj) : (w.alloc o).heap.size = w.heap.size + 1 := by simp
theorem Ats.three (w : World) (s t u v x y : ByteArray) : Ats [(w.heap.size + 1 + 1, x, y), (w.heap.size + 1, u, v), (w.heap.size, s, t)] (((w.alloc (pObj s t)).alloc (pObj u v)).alloc (pObj x y)) := by
  have h := (((Ats.nil w).push s t).push u v).push x y
  rw [World.alloc_size, World.alloc_size] at h
  exact h
end Go.Proofs.YtcncdepjbhnknaaGreatDoor
/- detect: the variables zero and one; within, must. -/
namespace Go.Proofs.YtcncdepjbhnknaaGreatDoor
open Go.RowKit Go.Shelf
attribute [local go_sem ↓] Go.wp_at_zero Go.wp_at_succ

/-- What the variables zero and one hold. -/
structure DetV (w : World) : Prop where
  z0 : w.cell? ⟨0, 0, none⟩ = some (.string ⟨#[48]⟩)
  z1 : w.cell? ⟨0, 1, none⟩ = some (.string ⟨#[49]⟩)
  o0 : w.cell? ⟨1, 0, none⟩ = some (.string ⟨#[49]⟩)
  o1 : w.cell? ⟨1, 1, none⟩ = some (.string ⟨#[49]⟩)
theorem DetV.below {w w' : World} {B : Nat} (h : DetV w) (hb : Below B w w') (hB : w.heap.size ≤ B) : DetV w' :=
  ⟨(hb.cell (Nat.lt_of_lt_of_le (World.block_lt_of_cell? _ _ h.z0) hB)).trans h.z0, (hb.cell (Nat.lt_of_lt_of_le (World.block_lt_of_cell? _ _ h.z1) hB)).trans h.z1,
    (hb.cell (Nat.lt_of_lt_of_le (World.block_lt_of_cell? _ _ h.o0) hB)).trans h.o0, (hb.cell (Nat.lt_of_lt_of_le (World.block_lt_of_cell? _ _ h.o1) hB)).trans h.o1⟩
set_option maxRecDepth 100000 in
theorem within_any (n low high : Int) (w : World) : Calls Tryz.prog 49 #[.int .i64 n, .int .i64 low, .int .i64 high] w (BoolPost w (decide (low ≤ n) && decide (n ≤ high))) := by
  by_cases h1 : low ≤ n
  · by_cases h2 : n ≤ high
    · go_enter Tryz.func49, Tryz.ntmps49
      go_wp2
      go_ret
      exact ⟨by simp [h1, h2], Below.refl _ _⟩
    · go_enter Tryz.func49, Tryz.ntmps49
      go_wp2
      go_ret
      exact ⟨by simp [h1, h2], Below.refl _ _⟩
  · go_enter Tryz.func49, Tryz.ntmps49
    go_wp2
    go_ret
    exact ⟨by rw [decide_eq_false (show ¬ low ≤ n by omega)]; rfl, Below.refl _ _⟩
/-- The work is ended with an error's number (detect's own misfit). -/
def BrokeD (n : Int) : Ending := .panicked [{ v := .iface 133 (.agg #[.int .i64 n]), recovered := false }]
def MustD (s t : ByteArray) (n : Int) (w : World) (e : Ending) (w' : World) : Prop :=
  ((n = 0 ∧ e = .returned (.agg #[.string s, .string t])) ∨ (n ≠ 0 ∧ e = BrokeD n)) ∧ Below w.heap.size w w'
set_option maxRecDepth 100000 in
set_option maxHeartbeats 1000000 in
theorem dmust_any (s t : ByteArray) (n : Int) (w : World) : Calls Tryz.prog 77 #[.agg #[.string s, .string t], .int .i64 n] w (MustD s t n w) := by
  by_cases hn : n = 0
  · have h0 : (n != 0) = false := by rw [bne_eq_false_iff_eq]; exact hn
    have H0 := Lib.hid hn
    clear hn
    go_enter Tryz.func77, Tryz.ntmps77
    go_wp2
    refine bodyPost_ret (v := .agg #[.string s, .string t]) (by simp [results, Tryz.f77, go_sem]) rfl ⟨.inl ⟨H0.out, rfl⟩, ((Below.refl _ w).alloc (Nat.le_refl _) _).alloc (by simp) _⟩
  · have h0 : (n != 0) = true := by rw [bne_iff_ne]; exact hn
    have H0 := Lib.hid hn
    clear hn
    go_enter Tryz.func77, Tryz.ntmps77
    go_wp2
    refine ⟨rfl, .inr ⟨H0.out, rfl⟩, ((Below.refl _ w).alloc (Nat.le_refl _) _).alloc (by simp) _⟩
theorem dmust_ok (s t : ByteArray) (w : World) : Calls Tryz.prog 77 #[pV s t, .int .i64 0] w (ValPost (pV s t) w) :=
  (dmust_any s t 0 w).mono fun e w' ⟨h, hb⟩ => by
    rcases h with ⟨_, rfl⟩ | ⟨h, _⟩
    · exact ⟨rfl, hb⟩
    · exact absurd rfl h
end Go.Proofs.YtcncdepjbhnknaaGreatDoor
/- detect's of: what a sight is of. -/
namespace Go.Proofs.YtcncdepjbhnknaaGreatDoor
open Go.RowKit Go.Shelf
attribute [local go_sem ↓] Go.wp_at_zero Go.wp_at_succ

abbrev sO (a b c d e : Int) : Obj := .cells #[.int .i64 a, .int .i64 b, .int .i64 c, .int .i64 d, .int .i64 e] 30
set_option maxRecDepth 100000 in
set_option maxHeartbeats 1000000 in
theorem of_any' (a b c d e : Int) (w : World) : Calls Tryz.prog 46 #[.agg #[.int .i64 a, .int .i64 b, .int .i64 c, .int .i64 d, .int .i64 e]] w (ValPost (kV a b c) w) := by
  go_enter Tryz.func46, Tryz.ntmps46
  go_wp2
  refine bodyPost_ret (v := kV a b c) (by simp [results, Tryz.f46, go_sem]) rfl ⟨rfl, ((Below.refl _ w).alloc (Nat.le_refl _) _).alloc (by simp) _⟩
end Go.Proofs.YtcncdepjbhnknaaGreatDoor
/- A region that draws its order, of reads and of writes in a forced order: the operations in an order that is named; each read is taken first as soon as it can come up; whatever writes comes up alone. -/
namespace Go.Proofs.YtcncdepjbhnknaaGreatDoor
open Go.RowKit

section
variable {P : Program} {ops : Array Oper} {Q : Exit → Act → World → Prop} {md : Region.Mode} {S : World → Prop} {bar : Nat → Bool}

/-- The operations in the order that is named; true: a read. -/
def steps (P : Program) (ops : Array Oper) (Q : Exit → Act → World → Prop) (S : World → Prop) (bar : Nat → Bool) : List (Bool × Nat) → Act → World → Prop
  | [], a, w => Q .normal a w
  | (true, i) :: ks, a, w => ∃ o v, ops[i]? = some o ∧ YieldsIf P ops S o v a ∧ steps P ops Q S bar ks (a.put o.dst v) w
  | (false, i) :: ks, a, w => ∃ o, ops[i]? = some o ∧ (if Region.wanted o (yielded ops a.tmps) then o.wp P a w (fun a' w' => (bar i = true ∨ S w') ∧ steps P ops Q S bar ks a' w') Q
      else (bar i = true ∨ S w) ∧ steps P ops Q S bar ks (a.put o.dst undef) w)

/-- The closed facts. -/
def stepsB (md : Region.Mode) (ops : Array Oper) (bar : Nat → Bool) : List (Bool × Nat) → Array Bool → Bool
  | [], listed => decide (Region.ready md ops listed = [])
  | (true, k) :: ks, listed => (Region.ready md ops listed).contains k && Region.free md ops listed k && !bar k && ((List.range ops.size).all fun j => !bar j || decide (j = k) || Region.waitsFor md ops j k) && stepsB md ops bar ks (listed.setIfInBounds k true)
  | (false, k) :: ks, listed => decide (Region.ready md ops listed = [k]) && (!bar k || ks.all fun b => !b.1) && stepsB md ops bar ks (listed.setIfInBounds k true)

theorem wpJ_of_steps (hsel : Region.noSelect ops = true) (hQ : ∀ c a o v w, Q (.panic c) (a.put o v) w → Q (.panic c) a w) (hbo : ∀ j, ops.size ≤ j → bar j = false) :
    ∀ (ks : List (Bool × Nat)) (listed : Array Bool) (a : Act) (w : World), stepsB md ops bar ks listed = true →
      (S w ∨ ks.all (fun b => !b.1) = true) → steps P ops Q S bar ks a w → wpJ P md ops Q S bar ks.length listed a w
  | [], listed, a, w, hB, _, h => ⟨of_decide_eq_true hB, h⟩
  | (true, k) :: ks, listed, a, w, hB, hS, h => by
    simp only [stepsB, Bool.and_eq_true] at hB
    obtain ⟨⟨⟨⟨hr, hf⟩, hbk⟩, hw⟩, hB'⟩ := hB
    have hSw : S w := by
      rcases hS with hS | hS
      · exact hS
      · simp at hS
    obtain ⟨o, v, h0, hy, hrest⟩ := h
    have hbk' : bar k = false := by simpa using hbk
    have hwait : Waits md ops bar k := fun j hj hne => by
      have hjl : j < ops.size := by
        rcases Nat.lt_or_ge j ops.size with h' | h'
        · exact h'
        · rw [hbo j h'] at hj; cases hj
      rw [List.all_eq_true] at hw
      have := hw j (List.mem_range.2 hjl)
      rw [hj] at this
      simpa [hne] using this
    have ih := wpJ_of_steps hsel hQ hbo ks (listed.setIfInBounds k true) (a.put o.dst v) w hB' (.inl hSw) hrest
    rw [List.length_cons]
    exact wpJ_first h0 hsel (fun c a w => hQ c a o.dst v w) hwait hbk' ks.length listed a w (Region.free_spec h0 hf) (by simpa using hr) hy hSw ih
  | (false, k) :: ks, listed, a, w, hB, hS, h => by
    simp only [stepsB, Bool.and_eq_true, decide_eq_true_eq] at hB
    obtain ⟨⟨hr, hbk⟩, hB'⟩ := hB
    obtain ⟨o, h0, h⟩ := h
    refine ⟨fun h1 => (by rw [hr] at h1; cases h1), fun i hi => ?_⟩
    rw [hr] at hi
    obtain rfl : i = k := by simpa using hi
    have ih := fun a' w' (hs : bar i = true ∨ S w') h' => wpJ_of_steps hsel hQ hbo ks (listed.setIfInBounds i true) a' w' hB' (by
      rcases hs with hs | hs
      · rw [hs] at hbk
        exact .inr (by simpa using hbk)
      · exact .inl hs) h'
    unfold wpOp
    simp only [h0]
    split at h
    · rename_i hw; simp only [hw, if_true]; exact .inl (Oper.wp_mono (fun a' w' h' => ⟨h'.1, ih a' w' h'.1 h'.2⟩) h)
    · rename_i hw; simp only [hw]; exact ⟨h.1, ih _ _ h.1 h.2⟩

def stepsOk (l : List Oper) (ks : List (Bool × Nat)) (bar : Nat → Bool) : Bool :=
  Region.noSelect l.toArray && decide (ks.length = l.length) && stepsB .any l.toArray bar ks (Array.replicate l.toArray.size false) && noDefer l.toArray

theorem region_steps {l : List Oper} (ks : List (Bool × Nat)) (S : World → Prop) (bar : Nat → Bool) (hB : stepsOk l ks bar = true) (hbo : ∀ j, l.length ≤ j → bar j = false) (hQ : ∀ c a o v w, Q (.panic c) (a.put o v) w → Q (.panic c) a w) {a : Act} {w : World} (hS : S w)
    (H : steps P l.toArray Q S bar ks a w) : wpAny P .any l.toArray Q l.toArray.size (Array.replicate l.toArray.size false) a w := by
  simp only [stepsOk, Bool.and_eq_true, decide_eq_true_eq] at hB
  obtain ⟨⟨⟨hsel, hn⟩, hm⟩, _⟩ := hB
  have := wpAny_of_J _ _ _ _ (wpJ_of_steps hsel hQ (fun j hj => hbo j (by simpa using hj)) ks _ a w hm (.inl hS) H)
  rw [hn] at this
  simpa using this

theorem steps_plain {id : Nat} {a : Act} {w : World} {l : List Oper} (ks : List (Bool × Nat)) (S : World → Prop) (bar : Nat → Bool) (hm : P.follows .mixedOrders = true)
    (hB : stepsOk l ks bar = true) (hbo : ∀ j, l.length ≤ j → bar j = false) (hQ : ∀ c a o v w, Q (.panic c) (a.put o v) w → Q (.panic c) a w) (hS : S w.drew)
    (H : steps P l.toArray Q S bar ks a w.drew) : (Code.region id l.toArray true).wp P Q a w :=
  wp_region_any hm (region_steps ks S bar hB hbo hQ hS H)

theorem steps_read {i : Nat} {o : Oper} {ks : List (Bool × Nat)} {a : Act} {w : World} (v : Value) (ho : ops[i]? = some o) (hw : Region.wanted o (yielded ops a.tmps) = true) (hv : ∀ w, S w → (execOp a.eval o).run P w = .ok (.value v) w)
    (h : steps P ops Q S bar ks (a.put o.dst v) w) : steps P ops Q S bar ((true, i) :: ks) a w := ⟨o, v, ho, .inl ⟨hw, hv⟩, h⟩
theorem steps_write {i : Nat} {o : Oper} {ks : List (Bool × Nat)} {a : Act} {w : World} (ho : ops[i]? = some o) (hw : Region.wanted o (yielded ops a.tmps) = true)
    (h : ∀ K : Act → World → Prop, (∀ a' w', (bar i = true ∨ S w') → steps P ops Q S bar ks a' w' → K a' w') → o.wp P a w K Q) : steps P ops Q S bar ((false, i) :: ks) a w := by
  refine ⟨o, ho, ?_⟩
  rw [if_pos hw]
  exact h _ fun _ _ h1 h2 => ⟨h1, h2⟩
theorem steps_end {a : Act} {w : World} (h : Q .normal a w) : steps P ops Q S bar [] a w := h
end
end Go.Proofs.YtcncdepjbhnknaaGreatDoor
