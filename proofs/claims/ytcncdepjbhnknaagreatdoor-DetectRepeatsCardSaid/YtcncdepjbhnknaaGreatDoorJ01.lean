/- The parts DGreat, Join, LawShort6, MissL, RNum, RTrim, RParts, RDigits, RAppend of a proof, put together by program (merge6.py). -/
import Derived.Test.YtcncdepjbhnknaaGreatDoorH19
import Derived.Test.YtcncdepjbhnknaaGreatDoorH15
import Derived.Test.YtcncdepjbhnknaaGreatDoorH13
import Derived.Test.YtcncdepjbhnknaaGreatDoorH12
import Derived.Test.YtcncdepjbhnknaaGreatDoorH11
import Derived.Test.YtcncdepjbhnknaaGreatDoorH21
import Derived.Test.YtcncdepjbhnknaaGreatDoorH20
import Derived.Test.YtcncdepjbhnknaaGreatDoorH02
import Derived.Laws.AppendOwnNone
set_option linter.unusedVariables false
set_option linter.unusedSimpArgs false
/- The document's Great: has a curve longer numbers than statements look at? -/
namespace Go.Proofs.YtcncdepjbhnknaaGreatDoor
open Go.RowKit Go.Shelf
attribute [local go_sem ↓] Go.wp_at_zero Go.wp_at_succ

def fewB (b : BB) : Prop := (b.1.1.size ≤ 30 ∧ b.1.2.size ≤ 30) ∧ (b.2.1.size ≤ 30 ∧ b.2.2.size ≤ 30)
/-- What Great answers, as far as it is needed. -/
def GreatPost (bs : List BB) (w : World) (e : Ending) (w' : World) : Prop := ∃ r : Bool, e = .returned (.bool r) ∧ (r = false → bs.length ≤ 66 ∧ ∀ i, i < bs.length → fewB (bAt bs i)) ∧ Below w.heap.size w w'
theorem few_lim {bs : List BB} (h : ∀ i, i < bs.length → fewB (bAt bs i)) : LimB bs := fun x hx => by
  obtain ⟨i, hi, rfl⟩ := List.getElem_of_mem hx
  have h1 := h i hi
  rw [bAt_get hi] at h1
  obtain ⟨⟨a1, a2⟩, a3, a4⟩ := h1
  exact ⟨⟨by omega, by omega⟩, by omega, by omega⟩
abbrev S4g (b o : Nat) (s t u v : ByteArray) (w' : World) : Prop := w'.cell? ⟨b, o, none⟩ = some (.string s) ∧ w'.cell? ⟨b, o + 1, none⟩ = some (.string t) ∧ w'.cell? ⟨b, o + 2, none⟩ = some (.string u) ∧ w'.cell? ⟨b, o + 3, none⟩ = some (.string v)
set_option maxRecDepth 100000 in
set_option maxHeartbeats 4000000 in
theorem great_any {v : Value} {bs : List BB} {w : World} (hv : BL w v bs) : Calls Tryz.prog 19 #[v] w (GreatPost bs w) := by
  obtain ⟨n, hn⟩ : ∃ n, bs.length = n := ⟨_, rfl⟩
  obtain ⟨p, c, rfl⟩ : ∃ p c, v = .slice p n c := by obtain ⟨p, c, h, _⟩ := id hv; exact ⟨_, _, by rw [← hn]; exact h⟩
  obtain ⟨_, hcc, hnc⟩ := hv.len
  have HV := Lib.hid hv
  have HN := Lib.hid hn
  clear hv hn
  by_cases hl : n ≤ 66
  · have hno : ¬ (66 : Int) < (n : Int) := by omega
    go_enter Tryz.func19, Tryz.ntmps19
    go_wp2_with fail
    go_loopw [3] (fun i wr => ∃ k : Nat, i = .int .i64 k ∧ k ≤ n ∧ Hid (∀ j, j < k → fewB (bAt bs j)) ∧ Hid (Below w.heap.size w wr)) (fun i _ => n - (intOf i).toNat)
    case atStart => exact ⟨0, rfl, Nat.zero_le _, fun j hj => by omega, Below.refl _ _⟩
    case round =>
      obtain ⟨k, rfl, hk, HK, HB⟩ := hrel
      by_cases hlt : k < n
      · obtain ⟨b, off, rfl, _, hat⟩ := HV.out.at HN.out (by omega)
        have hS := hat wr.drew HB.out.drew k hlt
        obtain ⟨q, hq⟩ : ∃ q, bAt bs k = q := ⟨_, rfl⟩
        rw [hq] at hS
        have HQ := Lib.hid hq
        obtain ⟨⟨s, t⟩, u, v⟩ := q
        dsimp only at hS
        have i0' : (0 : Int) ≤ (k : Int) := by omega
        have i1' : (k : Int) < (n : Int) := by omega
        clear hat hq
        go_wp2_with fail
        refine tsteps_plain [(true, 0), (true, 1), (true, 2), (true, 3), (true, 4), (true, 5), (true, 6), (true, 7), (true, 8), (true, 9), (true, 10), (true, 11), (true, 12), (true, 13), (true, 14), (true, 15), (true, 16), (true, 17), (true, 18), (true, 19), (true, 20), (true, 21), (true, 22), (true, 23), (true, 24), (true, 25), (true, 26), (true, 27), (true, 28), (true, 29), (true, 30), (true, 31)] (S4g b (off + k * 4) s t u v) (fun _ => false)
          (by kernel_rfl) (by kernel_rfl) (by kernel_rfl) (fun _ _ => rfl) (fun _ _ o _ _ h => by cases o <;> exact h) hS ?_
        iterate 32
          refine steps_read _ rfl rfl (fun w' hS => by obtain ⟨a0, a1, a2, a3⟩ := hS; go_simp; first | rfl | (rw [if_pos (by omega)])) ?_
          simp only [List.getElem_toArray, List.getElem_cons_succ, List.getElem_cons_zero, Act.put, List.setIfInBounds_toArray, List.set_cons_zero, List.set_cons_succ]
        refine steps_end ?_
        obtain ⟨mx, hmx⟩ : ∃ mx : Int, max (s.size : Int) (max (t.size : Int) (max (u.size : Int) (v.size : Int))) = mx := ⟨_, rfl⟩
        rw [hmx]
        by_cases h30 : (30 : Int) < mx
        · go_wp2
          go_ret
          exact ⟨true, rfl, (fun h => by cases h), HB.out.drew⟩
        · go_wp2
          have hb : fewB (bAt bs k) := by
            rw [HQ.out]
            show (s.size ≤ 30 ∧ t.size ≤ 30) ∧ (u.size ≤ 30 ∧ v.size ≤ 30)
            exact ⟨⟨by omega, by omega⟩, by omega, by omega⟩
          refine ⟨⟨k + 1, by simp, by omega, ?_, HB.out.drew⟩, ?_⟩
          · intro j hj
            rcases Nat.lt_or_ge j k with h | h
            · exact HK.out j h
            · obtain rfl : j = k := by omega
              exact hb
          · simp only [intOf]
            omega
      · obtain rfl : k = n := by omega
        have HF : Hid (bs.length ≤ 66 ∧ ∀ i, i < bs.length → fewB (bAt bs i)) := ⟨by rw [HN.out]; exact hl, fun i hi => HK.out i (by rw [← HN.out]; exact hi)⟩
        go_wp2
        go_ret
        exact ⟨false, rfl, fun _ => HF.out, HB.out⟩
  · have hno : (66 : Int) < (n : Int) := by omega
    go_enter Tryz.func19, Tryz.ntmps19
    go_wp2
    go_ret
    exact ⟨true, rfl, (fun h => by cases h), Below.refl _ _⟩
end Go.Proofs.YtcncdepjbhnknaaGreatDoor
/- A region that draws its order and lays one fraction's block: whatever the order, one act and one world behind it. -/
namespace Go.Proofs.YtcncdepjbhnknaaGreatDoor
open Go.RowKit Go.Shelf

/-- Behind the region: the act is F of the block, the world is told by R. -/
def JoinQ (F : Nat → Act) (R : Nat → World → Prop) (c : Exit) (a : Act) (w : World) : Prop := c = .normal ∧ ∃ G, a = F G ∧ R G w
theorem region_join {P : Program} {c : Code} {Q : Exit → Act → World → Prop} {a : Act} {w : World} (F : Nat → Act) (R : Nat → World → Prop) (h : c.wp P (JoinQ F R) a w) (k : ∀ G w', R G w' → Q .normal (F G) w') : c.wp P Q a w :=
  wp_mono h fun e a' w' ⟨he, G, ha, hR⟩ => by
    subst he ha
    exact k G w' hR
theorem joinQ_panic {F : Nat → Act} {R : Nat → World → Prop} : ∀ c a o v w, JoinQ F R (.panic c) (a.put o v) w → JoinQ F R (.panic c) a w := fun _ _ _ _ _ h => by cases h.1
/-- The block that was laid. -/
def LaidP (W : World) (x y : ByteArray) (G : Nat) (w' : World) : Prop := Below W.heap.size W w' ∧ w'.heap[G]? = some (pObj x y) ∧ W.heap.size ≤ G
theorem Ats.also {l : List (Nat × ByteArray × ByteArray)} {w : World} (h : Ats l w) {g : Nat} {x y : ByteArray} (hg : w.heap[g]? = some (pObj x y)) : Ats ((g, x, y) :: l) w := fun i p hp => by
  cases i with
  | zero =>
    obtain rfl := Option.some.inj hp
    exact hg
  | succ i => exact h i p (by simpa using hp)
end Go.Proofs.YtcncdepjbhnknaaGreatDoor
/- The law package's short. -/
namespace Go.Proofs.YtcncdepjbhnknaaGreatDoor
open Go.RowKit Go.Shelf

/-- What short answers. -/
def shortB (m : Nat) (ps : List PP) : Bool := ps.all fun p => decide (p.1.size ≤ m) && decide (p.2.size ≤ m)
theorem shortB_iff {m : Nat} {ps : List PP} : shortB m ps = true ↔ ∀ p ∈ ps, p.1.size ≤ m ∧ p.2.size ≤ m := by
  unfold shortB
  rw [List.all_eq_true]
  exact ⟨fun h p hp => by have := h p hp; simpa using this, fun h p hp => by simpa using h p hp⟩
theorem shortB_no {m : Nat} {ps : List PP} {k : Nat} (hk : k < ps.length) (h : ¬ (ps[k].1.size ≤ m ∧ ps[k].2.size ≤ m)) : shortB m ps = false := by
  rw [← Bool.not_eq_true, shortB_iff]
  exact fun hc => h (hc _ (List.getElem_mem hk))
set_option maxRecDepth 100000 in
set_option maxHeartbeats 4000000 in
theorem short_any (m : Nat) (hm : m ≤ 100000) {v : Value} {ps : List PP} {w : World} (hv : PL w v ps) :
    Calls Tryz.prog 25 #[.int .i64 m, v] w (BoolPost w (shortB m ps)) := by
  obtain ⟨p, cap, rfl, hcap, hmax, hp⟩ := hv
  obtain ⟨n, hn⟩ : ∃ n, ps.length = n := ⟨_, rfl⟩
  rw [hn] at hcap ⊢
  unfold maxLen at hmax
  have HN := Lib.hid hn
  have HP := Lib.hid hp
  clear hn hp
  go_enter Tryz.func25, Tryz.ntmps25
  go_wp2
  go_loopw [9] (fun i wr => ∃ (k : Nat), i = .int .i64 k ∧ k ≤ n ∧ Hid (∀ j (h : j < ps.length), j < k → ps[j].1.size ≤ m ∧ ps[j].2.size ≤ m) ∧ Hid (Below w.heap.size w wr)) (fun i _ => n - (intOf i).toNat)
  case atStart => exact ⟨0, rfl, Nat.zero_le _, fun j _ h => by omega, Below.refl _ _⟩
  case round =>
    obtain ⟨k, rfl, hk, HK, HB⟩ := hrel
    obtain ⟨w0, rfl⟩ : ∃ w0 : World, w0 = wr := ⟨_, rfl⟩
    by_cases hlt : k < n
    · obtain ⟨bb, off, rfl, hbl, hat⟩ := HP.out (List.ne_nil_of_length_pos (by rw [HN.out]; omega))
      have hkp : k < ps.length := by rw [HN.out]; exact hlt
      obtain ⟨e0, e1⟩ := (hat.below HB.out hbl) k hkp
      obtain ⟨u, hu⟩ : ∃ u, ps[k].1 = u := ⟨_, rfl⟩
      obtain ⟨v, hv⟩ : ∃ v, ps[k].2 = v := ⟨_, rfl⟩
      rw [hu] at e0
      rw [hv] at e1
      have HL : Hid (k < ps.length) := hkp
      have HU := Lib.hid hu
      have HV := Lib.hid hv
      have HB2 := Lib.hid (HB.out.alloc HB.out.size (.cells #[.string u, .string v] 46))
      clear hat hu hv
      by_cases h1 : (m : Int) < u.size
      · have HQ : Hid (shortB m ps = false) := shortB_no HL.out (by rw [HU.out]; omega)
        go_wp2
        go_ret
        exact ⟨by rw [HQ.out]; rfl, HB2.out⟩
      · by_cases h2 : (m : Int) < v.size
        · have HQ : Hid (shortB m ps = false) := shortB_no HL.out (by rw [HV.out]; omega)
          go_wp2
          go_ret
          exact ⟨by rw [HQ.out]; rfl, HB2.out⟩
        · have HK2 : Hid (∀ j (h : j < ps.length), j < k + 1 → ps[j].1.size ≤ m ∧ ps[j].2.size ≤ m) := fun j h1 h2 => by
            rcases Nat.lt_or_ge j k with h3 | h3
            · exact HK.out j h1 h3
            · obtain rfl : j = k := by omega
              rw [HU.out, HV.out]; omega
          go_wp2
          go_roundw
          case rel => exact ⟨k + 1, by go_num, by omega, HK2, HB2⟩
          case measure => simp [intOf]; omega
    · have HQ : Hid (shortB m ps = true) := shortB_iff.2 fun p hp => by
        obtain ⟨j, hj, rfl⟩ := List.getElem_of_mem hp
        exact HK.out j hj (by rw [HN.out] at hj; omega)
      go_wp2
      go_ret
      exact ⟨by rw [HQ.out]; rfl, HB.out⟩
end Go.Proofs.YtcncdepjbhnknaaGreatDoor
/- What Miss answers (plain). -/
namespace Go.Proofs.YtcncdepjbhnknaaGreatDoor
open Go.RowKit Go.Shelf

/-- The chances of coverages. -/
def ChancesL (bs : List BB) : List PP → List Rat → Prop
  | [], cs => cs = []
  | p :: ps, cs => ∃ c r, cs = c :: r ∧ ChanceR bs.length (cR bs) (hR bs) (ratP p.1 p.2) c ∧ ChancesL bs ps r
theorem chanceR_exists {bs : List BB} (h : CurveP bs) (q : Rat) : ∃ c, ChanceR bs.length (cR bs) (hR bs) q c := by
  have hl := h.len
  obtain ⟨k, hk⟩ := Piece.exists (n := bs.length) (C := cR bs) q (bs.length - 1) (by omega)
  rw [Nat.sub_add_cancel (by omega)] at hk
  exact ⟨_, k, hk, rfl⟩
theorem ChancesL.exists {bs : List BB} (h : CurveP bs) : ∀ ps, ∃ cs, ChancesL bs ps cs
  | [] => ⟨[], rfl⟩
  | p :: ps => by
    obtain ⟨c, hc⟩ := chanceR_exists h (ratP p.1 p.2)
    obtain ⟨r, hr⟩ := ChancesL.exists h ps
    exact ⟨c :: r, c, r, rfl, hc, hr⟩
theorem ChancesL.unique {bs : List BB} : ∀ {ps : List PP} {cs ds : List Rat}, ChancesL bs ps cs → ChancesL bs ps ds → cs = ds
  | [], cs, ds, h, g => by rw [show cs = [] from h, show ds = [] from g]
  | p :: ps, cs, ds, h, g => by
    obtain ⟨c, r, rfl, h1, h2⟩ := h
    obtain ⟨d, s, rfl, g1, g2⟩ := g
    rw [h1.unique g1, ChancesL.unique h2 g2]
theorem ChancesL.append {bs : List BB} : ∀ {ps qs : List PP} {cs ds : List Rat}, ChancesL bs ps cs → ChancesL bs qs ds → ChancesL bs (ps ++ qs) (cs ++ ds)
  | [], qs, cs, ds, h, g => by rw [show cs = [] from h]; exact g
  | p :: ps, qs, cs, ds, h, g => by
    obtain ⟨c, r, rfl, h1, h2⟩ := h
    exact ⟨c, r ++ ds, rfl, h1, h2.append g⟩
theorem ChancesL.reverse {bs : List BB} : ∀ {ps : List PP} {cs : List Rat}, ChancesL bs ps cs → ChancesL bs ps.reverse cs.reverse
  | [], cs, h => by rw [show cs = [] from h]; exact rfl
  | p :: ps, cs, h => by
    obtain ⟨c, r, rfl, h1, h2⟩ := h
    rw [List.reverse_cons, List.reverse_cons]
    exact h2.reverse.append ⟨c, [], rfl, h1, rfl⟩
theorem ChancesL.range {bs : List BB} (hC : CurveP bs) : ∀ {ps : List PP} {cs : List Rat}, ChancesL bs ps cs → ∀ c ∈ cs, 0 ≤ c ∧ c ≤ 1
  | [], cs, h, c, hc => by rw [show cs = [] from h] at hc; cases hc
  | p :: ps, cs, h, c, hc => by
    obtain ⟨d, r, rfl, h1, h2⟩ := h
    rcases List.mem_cons.1 hc with rfl | hc
    · exact ⟨h1.nn hC.conc' (mkRat_nonneg _ _), h1.top hC.conc'⟩
    · exact h2.range hC c hc
/-- What is left, or that it does not fit. -/
def MissE (a : Rat) (cs : List Rat) (x y : ByteArray) (n : Int) : Prop := (∃ r, missA a cs = some r ∧ IsP r x y ∧ n = 0) ∨ (missA a cs = none ∧ x = ⟨#[]⟩ ∧ y = ⟨#[]⟩ ∧ n = 4)
/-- What Miss answers. -/
def MissOk (bs : List BB) (ps : List PP) : Prop := (CurveP bs ∧ ps.all (smallP 300) = true) ∧ ps.length ≤ 512
def MissP (bs : List BB) (ps : List PP) (x y : ByteArray) (n : Int) : Prop :=
  (¬ MissOk bs ps ∧ x = ⟨#[]⟩ ∧ y = ⟨#[]⟩ ∧ n = 2) ∨ (MissOk bs ps ∧ ∃ cs, ChancesL bs ps cs ∧ MissE 1 cs x y n)
theorem MissE.det {a : Rat} {cs : List Rat} {x y u v : ByteArray} {n m : Int} (h : MissE a cs x y n) (g : MissE a cs u v m) : x = u ∧ y = v ∧ n = m := by
  rcases h with ⟨r, h1, h2, rfl⟩ | ⟨h1, rfl, rfl, rfl⟩
  · rcases g with ⟨s, g1, g2, rfl⟩ | ⟨g1, _⟩
    · rw [h1] at g1
      obtain ⟨e1, e2⟩ := isP_one' h2 g2 (Option.some.inj g1)
      exact ⟨e1, e2, rfl⟩
    · rw [h1] at g1; cases g1
  · rcases g with ⟨s, g1, _⟩ | ⟨_, rfl, rfl, rfl⟩
    · rw [h1] at g1; cases g1
    · exact ⟨rfl, rfl, rfl⟩
theorem MissP.det {bs : List BB} {ps : List PP} {x y u v : ByteArray} {n m : Int} (h : MissP bs ps x y n) (g : MissP bs ps u v m) : x = u ∧ y = v ∧ n = m := by
  rcases h with ⟨h, rfl, rfl, rfl⟩ | ⟨h, cs, h1, h2⟩
  · rcases g with ⟨_, rfl, rfl, rfl⟩ | ⟨g, _⟩
    · exact ⟨rfl, rfl, rfl⟩
    · exact absurd g h
  · rcases g with ⟨g, _⟩ | ⟨_, ds, g1, g2⟩
    · exact absurd h g
    · rw [h1.unique g1] at h2
      exact h2.det g2
/-- What is left to do behind k coverages. -/
def MissL (bs : List BB) (ps : List PP) (k : Nat) (a : Rat) : Prop := ∀ x y n, (∃ cs, ChancesL bs (ps.drop k) cs ∧ MissE a cs x y n) → ∃ cs, ChancesL bs ps cs ∧ MissE 1 cs x y n
theorem MissL.zero (bs : List BB) (ps : List PP) : MissL bs ps 0 1 := fun _ _ _ h => h
theorem drop_cons {ps : List PP} {k : Nat} (hk : k < ps.length) : ps.drop k = ps[k] :: ps.drop (k + 1) := (List.drop_eq_getElem_cons hk)
theorem MissL.step {bs : List BB} {ps : List PP} {k : Nat} {a c : Rat} (h : MissL bs ps k a) (hk : k < ps.length) (hc : ChanceR bs.length (cR bs) (hR bs) (ratP ps[k].1 ps[k].2) c) (hf : Fits (a * (1 - c))) : MissL bs ps (k + 1) (a * (1 - c)) := by
  rintro x y n ⟨cs, h1, h2⟩
  refine h x y n ⟨c :: cs, ?_, ?_⟩
  · rw [drop_cons hk]
    exact ⟨c, cs, rfl, hc, h1⟩
  · unfold MissE missA
    rw [if_pos hf]
    exact h2
theorem MissL.stop {bs : List BB} {ps : List PP} {k : Nat} {a c : Rat} (h : MissL bs ps k a) (hC : CurveP bs) (hk : k < ps.length) (hc : ChanceR bs.length (cR bs) (hR bs) (ratP ps[k].1 ps[k].2) c) (hf : ¬ Fits (a * (1 - c))) :
    ∃ cs, ChancesL bs ps cs ∧ MissE 1 cs ⟨#[]⟩ ⟨#[]⟩ 4 := by
  obtain ⟨cs, h1⟩ := ChancesL.exists hC (ps.drop (k + 1))
  refine h _ _ _ ⟨c :: cs, ?_, .inr ⟨?_, rfl, rfl, rfl⟩⟩
  · rw [drop_cons hk]
    exact ⟨c, cs, rfl, hc, h1⟩
  · unfold missA
    rw [if_neg hf]
theorem MissL.done {bs : List BB} {ps : List PP} {a : Rat} (h : MissL bs ps ps.length a) {x y : ByteArray} (hx : IsP a x y) : ∃ cs, ChancesL bs ps cs ∧ MissE 1 cs x y 0 := by
  refine h x y 0 ⟨[], ?_, .inl ⟨a, rfl, hx, rfl⟩⟩
  rw [List.drop_length]
  exact rfl
theorem MissP.nums {bs : List BB} {ps : List PP} {x y : ByteArray} {n : Int} (h : MissP bs ps x y n) : n = 2 ∨ n = 0 ∨ n = 4 := by
  rcases h with ⟨_, _, _, h⟩ | ⟨_, cs, _, ⟨_, _, _, h⟩ | ⟨_, _, _, h⟩⟩
  · exact .inl h
  · exact .inr (.inl h)
  · exact .inr (.inr h)
theorem MissP.fine {bs : List BB} {ps : List PP} {x y : ByteArray} (h : MissP bs ps x y 0) : MissOk bs ps ∧ ∃ cs, ChancesL bs ps cs ∧ IsP (prodM cs) x y := by
  rcases h with ⟨_, _, _, h⟩ | ⟨h0, cs, h1, ⟨r, h2, h3, _⟩ | ⟨_, _, _, h⟩⟩
  · cases h
  · refine ⟨h0, cs, h1, ?_⟩
    have e := missA_prod cs h2
    have e2 : r = prodM cs := by grind
    rwa [e2] at h3
  · cases h
/-- One more search, in any place, and in another order. -/
theorem miss_more {bs : List BB} {p q : List PP} {m : PP} {x y u v s t : ByteArray} (h : MissP bs (p ++ q) x y 0) (g : MissP bs (p ++ m :: q) u v 0) (k : MissP bs (p ++ m :: q).reverse s t 0) (hm : 0 ≤ ratP m.1 m.2) :
    ratP u v ≤ ratP x y ∧ u = s ∧ v = t ∧ IsP (ratP u v) u v ∧ IsP (ratP x y) x y := by
  obtain ⟨h0, cs, h1, h2⟩ := h.fine
  obtain ⟨g0, ds, g1, g2⟩ := g.fine
  obtain ⟨k0, es, k1, k2⟩ := k.fine
  have hC := h0.1.1
  obtain ⟨cp, p1⟩ := ChancesL.exists hC p
  obtain ⟨cq, q1⟩ := ChancesL.exists hC q
  obtain ⟨c, hc⟩ := chanceR_exists hC (ratP m.1 m.2)
  have e1 := h1.unique (p1.append q1)
  have e2 := g1.unique (p1.append (qs := m :: q) ⟨c, cq, rfl, hc, q1⟩)
  have e3 := k1.unique g1.reverse
  subst e1 e2 e3
  rw [prodM_reverse] at k2
  obtain ⟨e4, e5⟩ := isP_one' g2 k2 rfl
  refine ⟨?_, e4, e5, ?_, ?_⟩
  · rw [g2.rat, h2.rat]
    exact prodM_more (fun z hz => h1.range hC z hz) ⟨hc.nn hC.conc' hm, hc.top hC.conc'⟩
  · rw [g2.rat]; exact g2
  · rw [h2.rat]; exact h2
end Go.Proofs.YtcncdepjbhnknaaGreatDoor
/- The document's numbers: parts of four digits, and the strings of digits. No program is in sight. -/
namespace Go.Proofs.YtcncdepjbhnknaaGreatDoor

/-! ### The parts of a string of digits -/
/-- What is left of the digits when k parts were taken. -/
def hleft (l : List UInt8) (k : Nat) : List UInt8 := l.take (l.length - 4 * k)
/-- The k-th part. -/
def hval (l : List UInt8) (k : Nat) : Nat := decVal ((hleft l k).drop (l.length - 4 * k - 4))
def hcount (l : List UInt8) : Nat := (l.length + 3) / 4

theorem hleft_length (l : List UInt8) (k : Nat) : (hleft l k).length = l.length - 4 * k := by unfold hleft; rw [List.length_take]; omega
theorem hleft_zero (l : List UInt8) : hleft l 0 = l := by unfold hleft; exact List.take_of_length_le (by omega)
theorem hleft_succ (l : List UInt8) (k : Nat) : hleft l (k + 1) = (hleft l k).take (l.length - 4 * k - 4) := by
  unfold hleft
  rw [List.take_take]
  congr 1
  omega
theorem hval_lt {l : List UInt8} (h : ∀ c ∈ l, isDig c = true) (k : Nat) : hval l k < 10000 := by
  have h1 := decVal_lt (s := (hleft l k).drop (l.length - 4 * k - 4)) fun c hc => h c (List.mem_of_mem_take (List.mem_of_mem_drop hc))
  have h2 : ((hleft l k).drop (l.length - 4 * k - 4)).length ≤ 4 := by rw [List.length_drop, hleft_length]; omega
  have h3 : 10 ^ ((hleft l k).drop (l.length - 4 * k - 4)).length ≤ 10 ^ 4 := Nat.pow_le_pow_right (by omega) h2
  unfold hval
  omega
theorem hval_step (l : List UInt8) (k : Nat) : decVal (hleft l k) = hval l k + 10000 * decVal (hleft l (k + 1)) := by
  have h1 := decVal_append ((hleft l k).take (l.length - 4 * k - 4)) ((hleft l k).drop (l.length - 4 * k - 4))
  rw [List.take_append_drop, ← hleft_succ] at h1
  rw [h1]
  unfold hval
  rcases Nat.lt_or_ge (l.length - 4 * k) 4 with h2 | h2
  · have h3 : hleft l (k + 1) = [] := List.eq_nil_of_length_eq_zero (by rw [hleft_length]; omega)
    rw [h3, decVal_nil]; omega
  · have h3 : ((hleft l k).drop (l.length - 4 * k - 4)).length = 4 := by rw [List.length_drop, hleft_length]; omega
    rw [h3]; omega
theorem val_parts (l : List UInt8) (k : Nat) : val 10000 ((List.range k).map (hval l)) + 10000 ^ k * decVal (hleft l k) = decVal l := by
  induction k with
  | zero => simp [val, hleft_zero]
  | succ k ih =>
    rw [List.range_succ, List.map_append, List.map_cons, List.map_nil, val_snoc, Nat.pow_succ]
    simp only [List.length_map, List.length_range]
    rw [hval_step] at ih
    grind
theorem val_parts_all (l : List UInt8) : val 10000 ((List.range (hcount l)).map (hval l)) = decVal l := by
  have h := val_parts l (hcount l)
  have h2 : hleft l (hcount l) = [] := List.eq_nil_of_length_eq_zero (by rw [hleft_length]; unfold hcount; omega)
  rw [h2, decVal_nil] at h
  simpa using h
/-- The k-th part, read up to the i-th digit. -/
def hpart (l : List UInt8) (k i : Nat) : Nat := decVal ((l.take i).drop (l.length - 4 * k - 4))
theorem hpart_start (l : List UInt8) (k : Nat) : hpart l k (l.length - 4 * k - 4) = 0 := by
  unfold hpart
  have : (l.take (l.length - 4 * k - 4)).drop (l.length - 4 * k - 4) = [] := List.eq_nil_of_length_eq_zero (by rw [List.length_drop, List.length_take]; omega)
  rw [this]; rfl
theorem hpart_step (l : List UInt8) (k i : Nat) (h1 : l.length - 4 * k - 4 ≤ i) (h2 : i < l.length) : hpart l k (i + 1) = 10 * hpart l k i + dg1 l[i] := by
  unfold hpart
  rw [List.take_succ_eq_append_getElem h2, List.drop_append_of_le_length (by rw [List.length_take]; omega), decVal_snoc]
  omega
theorem hpart_done (l : List UInt8) (k : Nat) : hpart l k (l.length - 4 * k) = hval l k := rfl
theorem hpart_lt {l : List UInt8} (h : ∀ c ∈ l, isDig c = true) (k i : Nat) (h1 : i ≤ l.length - 4 * k) : hpart l k i < 10000 := by
  have h1 := decVal_lt (s := (l.take i).drop (l.length - 4 * k - 4)) fun c hc => h c (List.mem_of_mem_take (List.mem_of_mem_drop hc))
  have h2 : ((l.take i).drop (l.length - 4 * k - 4)).length ≤ 4 := by rw [List.length_drop, List.length_take]; omega
  have h3 : 10 ^ ((l.take i).drop (l.length - 4 * k - 4)).length ≤ 10 ^ 4 := Nat.pow_le_pow_right (by omega) h2
  unfold hpart
  omega

/-! ### The digits of parts -/
structure DigInv (xs : List Nat) (i k : Nat) (s : List UInt8) : Prop where
  dig : ∀ c ∈ s, isDig c = true
  len : s.length = 4 * i + k
  eq : decVal s = val 10000 (xs.take i) + 10000 ^ i * (xs.getD i 0 % 10 ^ k)
theorem DigInv.start (xs : List Nat) : DigInv xs 0 0 [] := ⟨by simp, rfl, by simp [val, decVal_nil, Nat.mod_one]⟩
theorem DigInv.step {xs : List Nat} {i k : Nat} {s : List UInt8} (h : DigInv xs i k s) {p : Nat} (hp : p = xs.getD i 0 / 10 ^ k) : DigInv xs i (k + 1) (UInt8.ofNat (48 + p % 10) :: s) := by
  have hd := dg1_digit (Nat.mod_lt p (by omega) : p % 10 < 10)
  refine ⟨fun c hc => ?_, by rw [List.length_cons, h.len]; omega, ?_⟩
  · rcases List.mem_cons.1 hc with rfl | hc
    · exact hd.2
    · exact h.dig c hc
  · rw [decVal_cons, hd.1, h.len, h.eq, Nat.mod_pow_succ, ← hp, Nat.pow_add, Nat.pow_mul]
    have : (10 : Nat) ^ 4 = 10000 := rfl
    rw [this]
    generalize p % 10 = d
    generalize (10000 : Nat) ^ i = a
    generalize (10 : Nat) ^ k = b
    grind
theorem DigInv.next {xs : List Nat} {i : Nat} {s : List UInt8} (h : DigInv xs i 4 s) (hx : xs.getD i 0 < 10000) : DigInv xs (i + 1) 0 s := by
  refine ⟨h.dig, by rw [h.len]; omega, ?_⟩
  rw [h.eq, Nat.mod_eq_of_lt (show xs.getD i 0 < 10 ^ 4 from hx), val_take_succ', Nat.pow_zero, Nat.mod_one]
  omega
theorem DigInv.done {xs : List Nat} {s : List UInt8} (h : DigInv xs xs.length 0 s) : (∀ c ∈ s, isDig c = true) ∧ decVal s = val 10000 xs ∧ s.length = 4 * xs.length := by
  refine ⟨h.dig, ?_, by rw [h.len]; omega⟩
  rw [h.eq, List.take_of_length_le (Nat.le_refl _), Nat.pow_zero, Nat.mod_one]
  omega
/-- Zeros ahead are left out. -/
theorem decVal_strip (s : List UInt8) : decVal (48 :: s) = decVal s := by rw [decVal_cons]; simp [dg1]
theorem strip_done {s : List UInt8} (hd : ∀ c ∈ s, isDig c = true) (hn : s ≠ []) (hh : ¬ (1 < s.length ∧ s.head? = some 48)) : Go.Lib.decDigits (decVal s) = s :=
  decDigits_decVal hd hn fun h1 h2 => hh ⟨h1, h2⟩

theorem ext_drop (t : ByteArray) (a : Nat) : (t.extract a t.size).data.toList = t.data.toList.drop a := by
  rw [ByteArray.data_extract, Array.toList_extract, List.extract_eq_take_drop]
  exact List.take_of_length_le (by rw [List.length_drop, size_len]; exact Nat.le_refl _)
theorem head48 (s : ByteArray) (h : 0 < s.size) : s.data.toList.head? = some 48 ↔ (s[0].toNat : Int) = 48 := by
  have h1 : s.data.toList.head? = some s[0] := by
    have : 0 < s.data.toList.length := by rw [size_len]; exact h
    rw [List.head?_eq_getElem?, List.getElem?_eq_getElem this]
    rfl
  rw [h1]
  constructor
  · intro h2
    have := Option.some.inj h2
    rw [this]; rfl
  · intro h2
    congr 1
    apply UInt8.toNat_inj.1
    have : (48 : UInt8).toNat = 48 := rfl
    omega

/-! ### Sums that end by themselves -/
/-- A sum's loop of the document, k parts done: what is left is not nothing. -/
structure SumInv (B : Nat) (n m : List Nat) (k : Nat) (o : List Nat) (c : Nat) : Prop where
  inv : PlusInv B n m k o c
  top : k = 0 ∨ B ^ (k - 1) ≤ val B n + val B m
theorem SumInv.start (B : Nat) (n m : List Nat) : SumInv B n m 0 [] 0 := ⟨PlusInv.start B n m, .inl rfl⟩
theorem pow_le_limbs {B : Nat} (hB : 1 < B) {n k : Nat} (h : k < (limbs B n).length) : B ^ k ≤ n := by
  rcases Nat.lt_or_ge n (B ^ k) with h1 | h1
  · have := limbs_length_le hB h1; omega
  · exact h1
theorem SumInv.step {B : Nat} (hB : 1 < B) {n m : Nat} {k : Nat} {o : List Nat} {c : Nat} (h : SumInv B (limbs B n) (limbs B m) k o c) {x : Nat} (hx : x = (limbs B n).getD k 0 + c + (limbs B m).getD k 0)
    (hgo : k < (limbs B n).length ∨ k < (limbs B m).length ∨ 0 < c) : SumInv B (limbs B n) (limbs B m) (k + 1) (o ++ [x % B]) (x / B) := by
  refine ⟨h.inv.step hB (limbs_lt hB n) (limbs_lt hB m) hx, .inr ?_⟩
  rw [Nat.add_sub_cancel, val_limbs hB, val_limbs hB]
  rcases Nat.lt_or_ge k (limbs B n).length with h1 | h1
  · have := pow_le_limbs hB h1; omega
  rcases Nat.lt_or_ge k (limbs B m).length with h2 | h2
  · have := pow_le_limbs hB h2; omega
  · have hc : 0 < c := by omega
    have h3 := h.inv.eq
    rw [List.take_of_length_le h1, List.take_of_length_le h2, val_limbs hB, val_limbs hB] at h3
    have h4 : B ^ k * 1 ≤ B ^ k * c := Nat.mul_le_mul_left _ hc
    omega
theorem SumInv.done {B : Nat} (hB : 1 < B) {n m : Nat} {k : Nat} {o : List Nat} (h : SumInv B (limbs B n) (limbs B m) k o 0) (h1 : (limbs B n).length ≤ k) (h2 : (limbs B m).length ≤ k) : o = limbs B (n + m) := by
  have h3 := h.inv.eq
  rw [List.take_of_length_le h1, List.take_of_length_le h2, val_limbs hB, val_limbs hB, Nat.mul_zero, Nat.add_zero] at h3
  have h4 := limbs_prefix hB h.inv.lt
  have h5 := h.top
  rw [val_limbs hB, val_limbs hB, ← h3] at h5
  have hl : o.length ≤ (limbs B (val B o)).length := by
    rw [h.inv.len]
    rcases h5 with rfl | h5
    · omega
    · have := le_limbs_length hB h5
      omega
  rw [List.take_of_length_le hl] at h4
  rw [← h3, h4]

theorem SumInv.bound {n m k c L : Nat} {o : List Nat} (h : SumInv 10000 (limbs 10000 n) (limbs 10000 m) k o c) (h1 : (limbs 10000 n).length ≤ L) (h2 : (limbs 10000 m).length ≤ L) : k ≤ L + 1 := by
  rcases h.top with rfl | h3
  · omega
  · rcases Nat.lt_or_ge (L + 1) k with h4 | h4
    · exfalso
      have a1 := val_lt (limbs_lt (B := 10000) (by omega) n)
      have a2 := val_lt (limbs_lt (B := 10000) (by omega) m)
      have b1 := Nat.pow_le_pow_right (n := 10000) (by omega) h1
      have b2 := Nat.pow_le_pow_right (n := 10000) (by omega) h2
      have b3 := Nat.pow_le_pow_right (n := 10000) (by omega) (show L + 1 ≤ k - 1 by omega)
      rw [Nat.pow_succ] at b3
      omega
    · exact h4

/-! ### Quotients, a part at a time, by any number -/
/-- A division's loop of the document: the parts from k on are done. -/
structure OverInv (B : Nat) (n : List Nat) (d : Nat) (k : Nat) (o : List Nat) (r : Nat) : Prop where
  inv : ShortInv B n d k o r
  zero : ∀ j, j < k → o.getD j 0 = 0
theorem OverInv.start {B : Nat} (hB : 1 < B) (n : List Nat) {d : Nat} (hd : 0 < d) : OverInv B n d n.length (List.replicate n.length 0) 0 :=
  ⟨ShortInv.start hB n hd, fun j _ => by simp only [List.getD, List.getElem?_replicate]; split <;> rfl⟩
theorem OverInv.step {B : Nat} {n : List Nat} (hn : ∀ y ∈ n, y < B) {d k : Nat} {o : List Nat} {r : Nat} (h : OverInv B n d (k + 1) o r) (hk : k < n.length) {s : Nat} (hs : s = r * B + n.getD k 0) {q : Nat} (hq : q = s / d) {t : Nat} (ht : t = s % d) :
    OverInv B n d k (o.set k q) t := by
  subst hq; subst ht
  refine ⟨h.inv.step hn hk hs, fun j hj => ?_⟩
  have := h.zero j (by omega)
  simp only [List.getD, List.getElem?_set] at this ⊢
  rw [if_neg (by omega)]; exact this
theorem OverInv.skip {B : Nat} {n : List Nat} (hn : ∀ y ∈ n, y < B) {d k : Nat} {o : List Nat} {r : Nat} (h : OverInv B n d (k + 1) o r) (hk : k < n.length) {s : Nat} (hs : s = r * B + n.getD k 0) (hlt : s < d) : OverInv B n d k o s := by
  have h1 := h.step hn hk hs (q := 0) (t := s) (by rw [Nat.div_eq_of_lt hlt]) (by rw [Nat.mod_eq_of_lt hlt])
  have h2 := h.zero k (by omega)
  have h3 : o.set k 0 = o := by
    have hl : k < o.length := by rw [h.inv.len]; exact hk
    have h4 : o[k] = 0 := by simpa [List.getD, List.getElem?_eq_getElem hl] using h2
    refine List.ext_getElem (by simp) fun j _ _ => ?_
    rw [List.getElem_set]
    split
    · rename_i e; subst e; exact h4.symm
    · rfl
  rwa [h3] at h1
theorem OverInv.done {B : Nat} {n : List Nat} {d : Nat} {o : List Nat} {r : Nat} (h : OverInv B n d 0 o r) : val B o = val B n / d ∧ r = val B n % d := h.inv.done
theorem OverInv.digit {B : Nat} {n : List Nat} (hn : ∀ y ∈ n, y < B) {d k : Nat} {o : List Nat} {r : Nat} (h : OverInv B n d (k + 1) o r) (hk : k < n.length) {s : Nat} (hs : s = r * B + n.getD k 0) : s / d < B := by
  have h1 := h.inv.rest
  have h2 : n.getD k 0 < B := by simp only [List.getD, List.getElem?_eq_getElem hk, Option.getD_some]; exact hn _ (List.getElem_mem hk)
  refine Nat.div_lt_of_lt_mul ?_
  have : (r + 1) * B ≤ d * B := Nat.mul_le_mul_right _ (by omega)
  rw [Nat.add_mul] at this
  omega
theorem limbs_one' {B x : Nat} (hx : 0 < x) (hB : x < B) : limbs B x = [x] := by
  rw [limbs_pos (by omega) hx, Nat.mod_eq_of_lt hB, Nat.div_eq_of_lt hB, limbs_zero]
end Go.Proofs.YtcncdepjbhnknaaGreatDoor
/- The document's numbers: what a slice of parts holds; trim. -/
namespace Go.Proofs.YtcncdepjbhnknaaGreatDoor
open Go.RowKit

theorem info_int : (Tryz.prog.info? 3).map (fun i => (i.zero, i.size, i.bytes)) = some (some (.int .i64 0), 1, 8) := by kernel_rfl

/-- A nil slice, or one with an address. -/
def PForm (v : Value) : Prop := v = .slice none 0 0 ∨ ∃ ad m c, v = .slice (some ad) m c
/-- The slice value v holds the parts of n. -/
def PNum (w : World) (v : Value) (n : Nat) : Prop := Nums .i64 w v (limbs 10000 n) ∧ PForm v
theorem PNum.after {w w' : World} {v : Value} {n B : Nat} (h : PNum w v n) (hb : Below B w w') (hB : w.heap.size ≤ B) : PNum w' v n := ⟨Nums.below h.1 hb hB, h.2⟩
theorem Nums.form {k : IntKind} {w : World} {v : Value} {xs : List Nat} (h : Nums k w v xs) : ∃ p c, v = .slice p xs.length c := by
  obtain ⟨p, c, h1, _⟩ := h
  exact ⟨p, c, h1⟩
theorem PNum.form {w : World} {v : Value} {n : Nat} (h : PNum w v n) : ∃ p m c, v = .slice p m c := by
  obtain ⟨p, c, h1⟩ := h.1.form
  exact ⟨p, _, c, h1⟩
theorem PNum.kept {w w' : World} {v : Value} {n : Nat} (h : PNum w v n) (hs : w.heap.size ≤ w'.heap.size) (hk : ∀ b, v.ownBlock = some b → b < w.heap.size → w'.heap[b]? = w.heap[b]?) : PNum w' v n := by
  obtain ⟨⟨p, c, rfl, h1, h2, h3⟩, hf⟩ := h
  refine ⟨⟨p, c, rfl, h1, h2, fun hne => ?_⟩, hf⟩
  obtain ⟨b, off, rfl, hb, ha⟩ := h3 hne
  refine ⟨b, off, rfl, Nat.lt_of_lt_of_le hb hs, fun j hj => ?_⟩
  have := hk b rfl hb
  exact (World.cell?_of_block (w := w) (a := ⟨b, off + j, none⟩) this).trans (ha j hj)
/-- What one number answers. -/
def PPost (w : World) (n : Nat) (e : Ending) (w' : World) : Prop := ∃ v, e = .returned v ∧ PNum w' v n ∧ Below w.heap.size w w'
theorem pnum_nil (w : World) : PNum w (.slice none 0 0) 0 := ⟨by rw [limbs_zero]; exact Nums.nil _ _, .inl rfl⟩

/-- A row of numbers of the call's own, or nothing yet. -/
def Grow (k : IntKind) (E : TypeId) (w : World) (B : Nat) (v : Value) (xs : List Nat) : Prop := w.ownsRow B E 1 v xs.length (xs.map fun x => Value.int k (x : Nat))
section
variable {k : IntKind} {E : TypeId} {w : World} {B : Nat} {v : Value} {xs : List Nat}
theorem Grow.nil : Grow k E w B (.slice none 0 0) [] := World.ownsRow_nil w B E 1
theorem Grow.nums (h : Grow k E w B v xs) : Nums k w v xs := by
  rcases h.2 with ⟨rfl, h0⟩ | ⟨g, cap, cur, rfl, hb, hg, hle, hcap, hr⟩
  · obtain rfl : xs = [] := List.eq_nil_of_length_eq_zero h0
    exact Nums.nil k w
  · have : Row k E w B g cap xs := ⟨h.1, .inr ⟨g, cap, cur, rfl, hb, hg, hle, hcap, hr⟩⟩
    exact this.nums
theorem Grow.kept {w' : World} (h : Grow k E w B v xs) (hk : ∀ g, B ≤ g → v.ownBlock = some g → w'.heap[g]? = w.heap[g]?) : Grow k E w' B v xs := by
  obtain ⟨h1, h2⟩ := h
  refine ⟨h1, ?_⟩
  rcases h2 with h2 | ⟨g, cap, cur, rfl, hb, hg, hr⟩
  · exact .inl h2
  · exact .inr ⟨g, cap, cur, rfl, hb, by rw [hk g hb rfl]; exact hg, hr⟩
theorem Grow.after {w' : World} (h : Grow k E w B v xs) (hb : Below w.heap.size w w') : Grow k E w' B v xs :=
  h.kept fun g _ hv => hb.block g (World.ownsRow.lt h g hv).2
theorem Grow.alloc (h : Grow k E w B v xs) (o : Obj) : Grow k E (w.alloc o) B v xs := World.ownsRow.alloc h o
theorem Grow.snoc {n x : Nat} {y : Int} {v' : Value} (hn : xs.length = n) (hy : y = (x : Nat)) (h : w.ownsRow B E 1 v' (n + 1) ((xs.map fun x => Value.int k (x : Nat)) ++ [.int k y])) : Grow k E w B v' (xs ++ [x]) := by
  subst hn; subst hy
  unfold Grow
  rw [List.length_append, List.map_append]
  exact h
theorem Grow.form (h : Grow k E w B v xs) : ∃ p c, v = .slice p xs.length c := h.nums.form
theorem Grow.pform (h : Grow k E w B v xs) : PForm v := by
  rcases h.2 with ⟨rfl, _⟩ | ⟨g, cap, cur, rfl, _⟩
  · exact .inl rfl
  · exact .inr ⟨_, _, _, rfl⟩
end

set_option maxHeartbeats 1000000 in
/-- The slice is cut behind the last part that is not 0; nothing else happens. -/
theorem rtrim_calls (p : Option Addr) (cap : Nat) (xs : List Nat) (w : World) (hlc : xs.length ≤ cap) (hcap : cap ≤ maxLen) (hlt : ∀ x ∈ xs, x < 10000)
    (hp : xs ≠ [] → ∃ b off, p = some ⟨b, off, none⟩ ∧ At .i64 w b off xs) :
    Calls Tryz.prog 150 #[.slice p xs.length cap] w fun e w' =>
      w = w' ∧ e = .returned (.slice p (limbs 10000 (val 10000 xs)).length cap) := by
  unfold maxLen at hcap
  have HP := Lib.hid hp
  clear hp
  go_enter Tryz.func150, Tryz.ntmps150
  go_wp2
  go_loop [0] (fun v => ∃ k : Nat, k ≤ xs.length ∧ v = .slice p k cap ∧ Hid (val 10000 xs = val 10000 (xs.take k))) (fun v => lenV v)
  case atStart => exact ⟨xs.length, Nat.le_refl _, rfl, by rw [List.take_of_length_le (Nat.le_refl _)]; rfl⟩
  case round =>
    obtain ⟨k, hk, rfl, HV⟩ := hrel
    rcases Nat.eq_zero_or_pos k with h0 | h0
    · subst h0
      go_wp2
      go_ret
      exact ⟨rfl, by rw [HV.out]; simp [val, limbs_zero]⟩
    · obtain ⟨j, rfl⟩ : ∃ j, k = j + 1 := ⟨k - 1, by omega⟩
      have hj : j < xs.length := by omega
      obtain ⟨b, off, rfl, hc⟩ := HP.out (List.ne_nil_of_length_pos (by omega))
      have hcj : w.cell? ⟨b, off + j, none⟩ = some (.int .i64 (xs[j] : Nat)) := hc j hj
      clear hc
      by_cases hz : xs[j] = 0
      · have hz' : ((xs[j] : Nat) : Int) = 0 := by rw [hz]; rfl
        rw [hz'] at hcj
        have HZ := Lib.hid hz
        clear hz hz'
        go_wp2
        go_round
        case rel => exact ⟨j, by omega, by simp, by rw [HV.out, val_take_zero hj HZ.out]; rfl⟩
        case measure => simp [lenV]
      · have hz' : (((xs[j] : Nat) : Int) == 0) = false := by simpa using hz
        have HZ := Lib.hid hz
        clear hz
        go_wp2
        go_ret
        exact ⟨rfl, by rw [HV.out, limbs_take (by omega) hlt hj HZ.out]; simp; omega⟩

/-- On any slice of parts. -/
theorem rtrim_any {v : Value} {xs : List Nat} {w : World} (h : Nums .i64 w v xs) (hf : PForm v) (hlt : ∀ x ∈ xs, x < 10000) (m : Nat) (hm : val 10000 xs = m) :
    Calls Tryz.prog 150 #[v] w fun e w' => ∃ v', e = .returned v' ∧ w = w' ∧ PNum w' v' m ∧ v'.ownBlock = v.ownBlock := by
  subst hm
  obtain ⟨p, cap, rfl, h1, h2, h3⟩ := h
  refine (rtrim_calls p cap xs w h1 h2 hlt (fun hne => by obtain ⟨b, off, hb, _, ha⟩ := h3 hne; exact ⟨b, off, hb, ha⟩)).mono ?_
  rintro e w' ⟨rfl, rfl⟩
  have hpre := limbs_prefix (B := 10000) (by omega) hlt
  have hle := limbs_val_le (B := 10000) (by omega) hlt
  refine ⟨_, rfl, rfl, ⟨⟨p, cap, rfl, by omega, h2, fun hne => ?_⟩, ?_⟩, by cases p <;> rfl⟩
  rotate_left
  · rcases hf with hf | ⟨ad, m, c, hf⟩
    · injection hf with e1 e2 e3
      subst e1; subst e3
      have : (limbs 10000 (val 10000 xs)).length = 0 := by omega
      rw [this]; exact .inl rfl
    · injection hf with e1 e2 e3
      subst e1
      exact .inr ⟨_, _, _, rfl⟩
  have hne2 : xs ≠ [] := fun h => by rw [h] at hne; exact hne (by simp [val, limbs_zero])
  obtain ⟨b, off, hb, hbl, ha⟩ := h3 hne2
  refine ⟨b, off, hb, hbl, fun j hj => ?_⟩
  have hj2 : j < xs.length := by omega
  rw [ha j hj2]
  have : (limbs 10000 (val 10000 xs))[j] = xs[j] := by
    have e : (limbs 10000 (val 10000 xs))[j]? = (xs.take (limbs 10000 (val 10000 xs)).length)[j]? := by rw [← hpre]
    rw [List.getElem?_eq_getElem hj, List.getElem?_take_of_lt hj, List.getElem?_eq_getElem hj2] at e
    exact Option.some.inj e
  rw [this]
end Go.Proofs.YtcncdepjbhnknaaGreatDoor
/- The document's Parts: the number of some digits. -/
namespace Go.Proofs.YtcncdepjbhnknaaGreatDoor
open Go.RowKit

theorem byte_digit (c : UInt8) (h : isDig c = true) : (48 : Int) ≤ c.toNat ∧ (c.toNat : Int) ≤ 57 ∧ (c.toNat : Int) - 48 = (dg1 c : Nat) := by
  have := of_decide_eq_true h
  unfold dg1
  omega

set_option maxRecDepth 100000 in
set_option maxHeartbeats 2000000 in
theorem parts_any (s : ByteArray) (hl : s.size ≤ 1000000) (hd : ∀ c ∈ s.data.toList, isDig c = true) (w : World) :
    Calls Tryz.prog 151 #[.string s] w (PPost w (decVal s.data.toList)) := by
  obtain ⟨i0, hi, hz0, hz1, hz2⟩ := info_parts info_int
  have HD := Lib.hid hd
  clear hd
  go_enter Tryz.func151, Tryz.ntmps151
  go_wp2
  go_loopw [3, 4] (fun vo ve wr => ∃ (k : Nat) (e : Int), k ≤ hcount s.data.toList ∧ ve = .int .i64 e ∧ e = (s.size : Int) - 4 * k ∧ Hid (Grow .i64 3 wr w.heap.size vo ((List.range k).map (hval s.data.toList))) ∧ Hid (Below w.heap.size w wr)) (fun _ ve _ => (intOf ve).toNat)
  case atStart => exact ⟨0, _, Nat.zero_le _, rfl, by simp, Grow.nil, Below.refl _ _⟩
  case round =>
    obtain ⟨k, e, hk, rfl, he, HO, HB⟩ := hrel
    have HE := Lib.hid he
    clear he
    by_cases hgo : 0 < e
    · obtain ⟨r, hr⟩ : ∃ r : Nat, e = (r : Nat) := ⟨e.toNat, by omega⟩
      subst hr
      have HR : Hid (r = s.size - 4 * k ∧ 0 < r) := ⟨by have := HE.out; omega, by omega⟩
      have hrs : r ≤ s.size := by have := HR.out.1; omega
      obtain ⟨a, ha⟩ : ∃ a, r - 4 = a := ⟨_, rfl⟩
      have hm : max 0 ((r : Int) - 4) = (a : Nat) := by omega
      have HA : Hid (a = s.size - 4 * k - 4 ∧ a ≤ r) := ⟨by have := HR.out.1; omega, by omega⟩
      have hr0 : 0 < r := by omega
      clear ha hgo
      go_wp2
      all_goals
        obtain ⟨w0, rfl⟩ : ∃ w0 : World, w0 = wr := ⟨_, rfl⟩
        go_loopw [5, 6] (fun vp vi wz => ∃ (i p : Nat), vi = .int .i64 i ∧ vp = .int .i64 p ∧ a ≤ i ∧ i ≤ r ∧ Hid (p = hpart s.data.toList k i) ∧ wz = w0) (fun _ vi _ => r - (intOf vi).toNat)
        case atStart => exact ⟨a, 0, by first | rfl | (congr 1; omega), rfl, Nat.le_refl _, HA.out.2, by show _ = _; rw [HA.out.1]; exact (hpart_start _ _).symm, rfl⟩
        case round =>
          obtain ⟨i, p, rfl, rfl, hai, hir, HP, rfl⟩ := hrel
          obtain ⟨w0, rfl⟩ : ∃ w0 : World, w0 = wr := ⟨_, rfl⟩
          have hp4 : p < 10000 := by rw [HP.out]; exact hpart_lt HD.out k i (by rw [size_len]; have := HR.out.1; omega)
          by_cases hlt : i < r
          · have his : i < s.size := by omega
            have hil : i < s.data.toList.length := by rw [size_len]; exact his
            obtain ⟨c, hc⟩ : ∃ c, s[i] = c := ⟨_, rfl⟩
            have hc2 : s.data.toList[i] = c := by rw [← hc]; rfl
            have hdc : isDig c = true := by rw [← hc2]; exact HD.out _ (List.getElem_mem hil)
            obtain ⟨q1, q2, q3⟩ := byte_digit c hdc
            have HP2 : Hid (10 * p + dg1 c = hpart s.data.toList k (i + 1)) := by
              show _ = _
              rw [hpart_step _ _ _ (by rw [size_len, ← HA.out.1]; exact hai) hil, hc2, HP.out]
            have hd9 := dg1_lt hdc
            have HC := Lib.hid hc
            clear hc2 hdc
            go_wp2
            go_roundw
            case rel => exact ⟨i + 1, 10 * p + dg1 c, by go_num, by first | rfl | (congr 1; omega), by omega, by omega, HP2, by first | rfl | trivial⟩
            case measure => simp [intOf]; omega
          · obtain rfl : i = r := by omega
            have HX : Hid (p = hval s.data.toList k) := by
              show _ = _
              rw [HP.out, HR.out.1, ← size_len, hpart_done]
            obtain ⟨po, no, co, rfl⟩ : ∃ p n c, u3 = .slice p n c := by obtain ⟨q, c, h⟩ := HO.out.form; exact ⟨_, _, _, h⟩
            have hown : w0.ownsRow w.heap.size 3 1 (.slice po no co) k (((List.range k).map (hval s.data.toList)).map fun x => Value.int .i64 (x : Nat)) := by
              have := HO.out; unfold Grow at this; simpa using this
            have hsz := HB.out.size
            have hm1 : k + 1 ≤ maxLen := by unfold maxLen; unfold hcount at hk; rw [size_len] at hk; omega
            have hm2 : (k + 1) * 8 ≤ 140737488355328 := by unfold hcount at hk; rw [size_len] at hk; omega
            have hownA := hown.alloc (.cells #[.int .i64 (p : Nat)] 3)
            have hm3 : w.heap.size ≤ (w0.alloc (.cells #[.int .i64 (p : Nat)] 3)).heap.size := by simp; omega
            go_wp2_with (at_builtin; go_loud (refine wpList_append_own _ rfl _ _ 142 rfl w.heap.size 3 i0 (.int .i64 0) 1 8 Tryz.underlying142 hi hz0 hz1 hz2 rfl (by decide) _ k _ rfl hownA ⟨w0.heap.size, 0, none⟩ 1 1 [.int .i64 (p : Nat)] rfl rfl (cell_one_new _ _ _) (by simp [Value.oneCell']) hm1 hm2 hm3 ?_); intro v' w1 hown1 hgrow1 _)
            have HG : Hid (Grow .i64 3 w1 w.heap.size v' ((List.range (k + 1)).map (hval s.data.toList))) := by
              have h1 := Grow.snoc (k := .i64) (xs := (List.range k).map (hval s.data.toList)) (x := p) (by simp) rfl hown1
              rw [HX.out] at h1
              rw [List.range_succ, List.map_append]
              exact h1
            have HB1 : Hid (Below w.heap.size w w1) := (HB.out.alloc hsz _).grown hgrow1 hm3 (fun z hz => (World.ownsRow.lt hownA z hz).1)
            clear hown hownA hown1 hgrow1
            go_roundw
            case rel => exact ⟨k + 1, _, by unfold hcount; rw [size_len]; have := HR.out; omega, rfl, by have := HE.out; push_cast; omega, HG, HB1⟩
            case measure => simp [intOf]; omega
    · have HK : Hid (k = hcount s.data.toList) := by
        show _ = _
        have := HE.out
        unfold hcount at *; rw [size_len] at *; omega
      have hlt : ∀ x ∈ (List.range k).map (hval s.data.toList), x < 10000 := by
        intro x hx
        obtain ⟨j, _, rfl⟩ := List.mem_map.1 hx
        exact hval_lt HD.out j
      have ht := rtrim_any HO.out.nums HO.out.pform hlt (decVal s.data.toList) (by rw [HK.out]; exact val_parts_all _)
      obtain ⟨po, no, co, rfl⟩ : ∃ p n c, u3 = .slice p n c := by obtain ⟨q, c, h⟩ := HO.out.form; exact ⟨_, _, _, h⟩
      clear hlt
      go_wp2_with fail
      refine ht.mono ?_
      rintro e' w' ⟨v', rfl, rfl, hv, _⟩
      obtain ⟨p', m', c', rfl⟩ := hv.form
      have HV := Lib.hid hv
      clear ht hv
      go_wp2
      go_ret
      exact ⟨_, rfl, HV.out, HB.out⟩
end Go.Proofs.YtcncdepjbhnknaaGreatDoor
/- The document's Digits: a number as digits. -/
namespace Go.Proofs.YtcncdepjbhnknaaGreatDoor
open Go.RowKit

/-- A string of digits whose zeros ahead do not count. -/
def Shown (n : Nat) (s : ByteArray) : Prop := (∀ c ∈ s.data.toList, isDig c = true) ∧ decVal s.data.toList = n
theorem Shown.tail {n : Nat} {s : ByteArray} (h : Shown n s) (hs : 1 < s.size) (h0 : (s[0]'(by omega)).toNat = 48) : Shown n (s.extract 1 s.size) := by
  have e := ext_drop s 1
  rcases hl : s.data.toList with _ | ⟨c, t⟩
  · have := size_len s; rw [hl] at this; simp at this; omega
  · rw [hl] at e
    have hc : s[0]'(by omega) = c := by
      have h1 : s.data.toList[0]'(by rw [size_len]; omega) = c := by simp [hl]
      exact h1
    rw [hc] at h0
    have hc48 : c = 48 := UInt8.toNat_inj.1 h0
    refine ⟨fun x hx => ?_, ?_⟩
    · rw [e] at hx
      exact h.1 x (by rw [hl]; exact List.mem_cons_of_mem _ (by simpa using hx))
    · rw [e]
      have := h.2
      rw [hl, hc48, decVal_strip] at this
      simpa using this
theorem Shown.done {n : Nat} {s : ByteArray} (h : Shown n s) (h0 : 0 < s.size) (hh : ¬ (1 < s.size ∧ (s[0]'h0).toNat = 48)) : s = str (Lib.decDigits n) := by
  rw [← h.2, strip_done h.1 (List.ne_nil_of_length_pos (by rw [size_len]; exact h0)), str_eq]
  rintro ⟨h1, h2⟩
  refine hh ⟨by rw [size_len] at h1; exact h1, ?_⟩
  have := (head48 s h0).1 h2
  omega
theorem shown_append {xs : List Nat} {i k : Nat} {s : ByteArray} (h : DigInv xs i k s.data.toList) {p : Nat} (hp : p = xs.getD i 0 / 10 ^ k) : DigInv xs i (k + 1) ((⟨#[UInt8.ofNat (48 + p % 10)]⟩ : ByteArray) ++ s).data.toList := by
  have := h.step hp
  simpa using this

theorem convert_one (w : World) (q : Nat) (hq : q < 10) :
    (convert 167 9 (.slice (some ⟨w.heap.size, 0, none⟩) 1 1)).run Tryz.prog (w.alloc (.cells #[.int .u8 (48 + (q : Nat))] 5)) = .ok (.string ⟨#[UInt8.ofNat (48 + q)]⟩) (w.alloc (.cells #[.int .u8 (48 + (q : Nat))] 5)) := by
  have h := run_convert_bytes_back (P := Tryz.prog) (w.alloc (.cells #[.int .u8 (48 + (q : Nat))] 5)) 167 9 5 ⟨w.heap.size, 0, none⟩ 1 [UInt8.ofNat (48 + q)] Tryz.underlying167 Tryz.underlying5 Tryz.underlying9 ?_
  · exact h
  · intro j hj
    match j, hj with
    | 0, _ =>
      have h2 : (w.alloc (.cells #[.int .u8 (48 + (q : Nat))] 5)).cell? ⟨w.heap.size, 0, none⟩ = some (.int .u8 (48 + (q : Nat))) := cell_new _ _ _ 0 rfl
      have h3 : ((UInt8.ofNat (48 + q)).toNat : Int) = 48 + (q : Nat) := by rw [UInt8.toNat_ofNat']; omega
      have h4 : (⟨w.heap.size, 0, none⟩ : Addr).add 0 = ⟨w.heap.size, 0, none⟩ := by unfold Addr.add; split <;> simp_all
      rw [h4]
      show _ = some (Value.int .u8 ((UInt8.ofNat (48 + q)).toNat : Int))
      rw [h3]; exact h2
    | j + 1, h => simp at h

/-- What a string answers. -/
def StrPost (s : ByteArray) (w : World) (e : Ending) (w' : World) : Prop := e = .returned (.string s) ∧ Below w.heap.size w w'

set_option maxRecDepth 100000 in
set_option maxHeartbeats 4000000 in
theorem rdigits_any {v : Value} {n : Nat} {w : World} (h1 : PNum w v n) (hl1 : (limbs 10000 n).length ≤ 1000000) :
    Calls Tryz.prog 152 #[v] w (StrPost (str (Lib.decDigits n)) w) := by
  obtain ⟨p1, c1, rfl, _, _, hp1⟩ := h1.1
  obtain ⟨xs, hxs⟩ : ∃ xs, limbs 10000 n = xs := ⟨_, rfl⟩
  rw [hxs] at hl1 hp1 ⊢
  have HX : Hid (∀ x ∈ xs, x < 10000) := by rw [← hxs]; exact limbs_lt (by omega) n
  have HV : Hid (val 10000 xs = n) := by rw [← hxs]; exact val_limbs (by omega) n
  have HP1 := Lib.hid hp1
  clear hxs hp1 h1
  go_enter Tryz.func152, Tryz.ntmps152
  go_wp2
  go_loopw [3, 4] (fun vs vi wr => ∃ (i : Nat) (s : ByteArray), vi = .int .i64 i ∧ i ≤ xs.length ∧ vs = .string s ∧ Hid (DigInv xs i 0 s.data.toList) ∧ Hid (Below w.heap.size w wr)) (fun _ vi _ => xs.length - (intOf vi).toNat)
  case atStart => exact ⟨0, _, rfl, Nat.zero_le _, rfl, DigInv.start _, Below.refl _ _⟩
  case round =>
    obtain ⟨i, s, rfl, hi, rfl, HI, HB⟩ := hrel
    by_cases hlt : i < xs.length
    · obtain ⟨b1, o1, rfl, hb1, a1⟩ := HP1.out (List.ne_nil_of_length_pos (by omega))
      obtain ⟨x, hx⟩ : ∃ x, xs.getD i 0 = x := ⟨_, rfl⟩
      have hxl : x < 10000 := by rw [← hx]; exact getD_lt (by omega) HX.out i
      have cx : wr.cell? ⟨b1, o1 + i, none⟩ = some (.int .i64 (x : Nat)) := (HB.out.cell (p := ⟨b1, o1 + i, none⟩) hb1).trans (a1.getD hlt hx)
      have Hx := Lib.hid hx
      clear hx a1
      go_wp2
      obtain ⟨w0, hw0⟩ : ∃ w0 : World, w0 = wr := ⟨_, rfl⟩
      go_loopw [3, 5, 6] (fun vs vp vk wz => ∃ (k p : Nat) (s : ByteArray), vk = .int .i64 k ∧ k ≤ 4 ∧ vp = .int .i64 p ∧ p < 10000 ∧ vs = .string s ∧ Hid (p = x / 10 ^ k) ∧ Hid (DigInv xs i k s.data.toList) ∧ Hid (Below w.heap.size w wz)) (fun _ _ vk _ => 4 - (intOf vk).toNat)
      case atStart => exact ⟨0, x, s, rfl, by omega, rfl, hxl, rfl, by show _ = _; simp, HI, HB⟩
      case round =>
        clear HI HB cx hw0
        obtain ⟨k, p, s, rfl, hk, rfl, hp4, rfl, HP, HI, HB⟩ := hrel
        by_cases hk4 : k < 4
        · obtain ⟨q, hq⟩ : ∃ q, p % 10 = q := ⟨_, rfl⟩
          obtain ⟨r, hr⟩ : ∃ r, p / 10 = r := ⟨_, rfl⟩
          have e1 : (p : Int) % 10 = (q : Nat) := by omega
          have e2 : (p : Int) / 10 = (r : Nat) := by omega
          have e3 : (p : Int).tmod 10 = (q : Nat) := by rw [← e1]; exact Int.tmod_eq_emod_of_nonneg (by omega)
          have e4 : (p : Int).tdiv 10 = (r : Nat) := by rw [← e2]; exact Int.tdiv_eq_ediv_of_nonneg (by omega)
          have hq10 : q < 10 := by omega
          have HS := shown_append HI.out (p := p) (by rw [HP.out, Hx.out])
          rw [hq] at HS
          have HS := Lib.hid HS
          have HQR : Hid (p / 10 = r ∧ p % 10 = q) := ⟨hr, hq⟩
          clear hq hr
          have HP2 : Hid (p / 10 = x / 10 ^ (k + 1)) := by show _ = _; rw [HP.out, Nat.pow_succ, Nat.div_div_eq_div_mul]
          have hcv := convert_one wr q hq10
          obtain ⟨z, hz⟩ : ∃ z, (⟨#[UInt8.ofNat (48 + q)]⟩ : ByteArray) = z := ⟨_, rfl⟩
          rw [hz] at hcv HS
          have hz1 : z.size = 1 := by rw [← hz]; rfl
          have hsl : s.size ≤ 5000000 := by rw [← size_len, HI.out.len]; omega
          have HB2 := Lib.hid (HB.out.alloc HB.out.size (.cells #[.int .u8 (48 + (q : Nat))] 5))
          clear hz
          go_wp2
          go_roundw
          case rel => exact ⟨k + 1, r, z ++ s, by go_num, by omega, rfl, by omega, rfl, by rw [← HQR.out.1]; exact HP2.out, HS, HB2⟩
          case measure => simp [intOf]; omega
        · obtain rfl : k = 4 := by omega
          have HN := Lib.hid (HI.out.next (by rw [Hx.out]; exact hxl))
          go_wp2
          go_roundw
          case rel => exact ⟨i + 1, s, by go_num, by omega, rfl, HN, HB⟩
          case measure => simp [intOf]; omega
    · obtain rfl : i = xs.length := by omega
      have HD := Lib.hid HI.out.done
      have HSH : Hid (Shown n s) := ⟨HD.out.1, by rw [HD.out.2.1, HV.out]⟩
      have HSZ : Hid (s.size ≤ 4000000 ∧ (s.size = 0 → n = 0)) := ⟨by rw [← size_len, HD.out.2.2]; omega, fun h => by
        have h1 := HD.out.2.2
        rw [size_len, h] at h1
        have h2 : xs = [] := List.eq_nil_of_length_eq_zero (by omega)
        rw [← HV.out, h2]; rfl⟩
      go_wp2
      obtain ⟨w0, rfl⟩ : ∃ w0 : World, w0 = wr := ⟨_, rfl⟩
      go_loopw [3] (fun vs wz => ∃ (s : ByteArray), vs = .string s ∧ Hid (Shown n s) ∧ Hid (s.size ≤ 4000000 ∧ (s.size = 0 → n = 0)) ∧ wz = w0) (fun vs _ => match vs with | .string s => s.size | _ => 0)
      case atStart => exact ⟨s, rfl, HSH, HSZ, rfl⟩
      case round =>
        clear HSH HSZ HD HI
        obtain ⟨s, rfl, HSH, HSZ, rfl⟩ := hrel
        have hsm := HSZ.out.1
        rcases Nat.eq_zero_or_pos s.size with h0 | h0
        · have HE : Hid (str (Lib.decDigits n) = (⟨#[48]⟩ : ByteArray)) := by show _ = _; rw [HSZ.out.2 h0, decDigits_zero]; rfl
          have hl0 : s.toList = [] := by rw [ByteArray.toList_eq]; exact List.eq_nil_of_length_eq_zero (by rw [size_len]; exact h0)
          go_wp2
          go_ret
          exact ⟨by rw [HE.out]; rfl, HB.out⟩
        · obtain ⟨c, hc⟩ : ∃ c, s[0]'h0 = c := ⟨_, rfl⟩
          have hne : s.toList.isEmpty = false := by rw [ByteArray.toList_eq, List.isEmpty_eq_false_iff]; exact List.ne_nil_of_length_pos (by rw [size_len]; exact h0)
          by_cases h1 : 1 < s.size
          · have h1' : (1 : Int) < s.size := by omega
            by_cases h48 : (c.toNat : Int) = 48
            · have hb : ((c.toNat : Int) == 48) = true := by simp [h48]
              have HS2 : Hid (Shown n (s.extract 1 s.size)) := HSH.out.tail h1 (by rw [hc]; omega)
              have hx : (s.extract 1 s.size).size = s.size - 1 := by rw [← size_len, ext_drop, List.length_drop, size_len]
              have HSZ2 : Hid ((s.extract 1 s.size).size ≤ 4000000 ∧ ((s.extract 1 s.size).size = 0 → n = 0)) := ⟨by omega, fun h => by omega⟩
              have HXS : Hid ((s.extract 1 s.size).size < s.size) := by show _ < _; omega
              clear hx hne h48
              go_wp2
              go_roundw
              case rel => exact ⟨s.extract 1 s.size, rfl, HS2, HSZ2, by first | rfl | trivial⟩
              case measure => exact HXS.out
            · have hb : ((c.toNat : Int) == 48) = false := by simp [h48]
              have HE : Hid (s = str (Lib.decDigits n)) := HSH.out.done h0 (fun ⟨_, h⟩ => by rw [hc] at h; omega)
              clear h48
              go_wp2
              go_ret
              exact ⟨by rw [← HE.out]; rfl, HB.out⟩
          · have h1' : ¬ (1 : Int) < s.size := by omega
            have HE : Hid (s = str (Lib.decDigits n)) := HSH.out.done h0 (fun ⟨h, _⟩ => h1 h)
            clear h1
            go_wp2
            go_ret
            exact ⟨by rw [← HE.out]; rfl, HB.out⟩
end Go.Proofs.YtcncdepjbhnknaaGreatDoor
/- append of a slice of numbers, whatever it is, onto a row of the call's own. -/
namespace Go.Proofs.YtcncdepjbhnknaaGreatDoor
open Go.RowKit

theorem add_lit' (b o i : Nat) : (⟨b, o, none⟩ : Addr).add i = ⟨b, o + i, none⟩ := by unfold Addr.add; split <;> simp_all
theorem wpList_append_nums {w : World} {ops : Array Oper} {rest : List Oper} {o : Oper} {a : Act} {Q : Exit → Act → World → Prop} (hgd : o.guard = none) (s x : Operand) (t : TypeId)
    (ho : o.op = .call { callee := .builtin .append, args := #[s, x], argTypes := #[t, t] })
    (base : Nat) (e : TypeId) (i : TypeInfo) (k : IntKind) (bytes : Nat) (ht : Tryz.prog.underlying t = some (.slice e)) (hi : Tryz.prog.info? e = some i) (hz : i.zero = some (.int k 0))
    (hsize : i.size = 1) (hby : i.bytes = bytes)
    (v : Value) (n : Nat) (xs : List Value) (hs : a.eval s = v) (hown : w.ownsRow base e 1 v n xs)
    (v2 : Value) (ys : List Nat) (hx : a.eval x = v2) (hv2 : Nums k w v2 ys) (hf : PForm v2)
    (h63 : n + ys.length ≤ maxLen) (hbytes : (n + ys.length) * bytes ≤ 140737488355328) (hbase : base ≤ w.heap.size)
    (h : ∀ v' w', w'.ownsRow base e 1 v' (n + ys.length) (xs ++ ys.map fun x => Value.int k (x : Nat)) → w.grownBy w' v.ownBlock → wpList Tryz.prog ops Q rest (a.put o.dst v') w') : wpList Tryz.prog ops Q (o :: rest) a w := by
  obtain ⟨p, cap, rfl, h1, h2, h3⟩ := hv2
  rcases hf with hf | ⟨ad, m, c, hf⟩
  · injection hf with e1 e2 e3
    subst e1; subst e3
    obtain rfl : ys = [] := List.eq_nil_of_length_eq_zero e2
    refine wpList_append_own_none hgd s x t ho base e i 1 ht hi v n xs hs hown hx (h v w ?_ ⟨rfl, rfl, rfl, Nat.le_refl _, fun _ _ _ => rfl⟩)
    simpa using hown
  · injection hf with e1 e2 e3
    subst e1
    refine wpList_append_own w hgd s x t ho base e i (.int k 0) 1 bytes ht hi hz hsize hby rfl (by decide) v n xs hs hown ad ys.length cap (ys.map fun x => Value.int k (x : Nat)) hx (by simp) ?_ ?_ h63 hbytes hbase (fun v' w' h5 h6 _ => h v' w' h5 h6)
    · intro j u hu
      have hj : j < ys.length := by
        rcases Nat.lt_or_ge j ys.length with h' | h'
        · exact h'
        · rw [List.getElem?_eq_none (by simpa using h')] at hu; cases hu
      obtain ⟨b, off, hb, _, hat⟩ := h3 (List.ne_nil_of_length_pos (by omega))
      obtain rfl := Option.some.inj hb
      rw [add_lit']
      rw [hat j hj]
      rw [List.getElem?_map, List.getElem?_eq_getElem hj] at hu
      exact hu
    · intro u hu
      obtain ⟨y, _, rfl⟩ := List.mem_map.1 hu
      rfl
end Go.Proofs.YtcncdepjbhnknaaGreatDoor
